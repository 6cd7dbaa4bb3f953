/- The law FnExactWriteCode holds for every call: part 2 of 3 of the proof (walks of functions, and what they answer). Conditions: none beyond what the given row says. -/
import Derived.Test.YtlecpdpdcocibaaDoorMFnExactWriteCode0
import Derived.Lib.Hide
import Derived.Lib.Builder
import Derived.Lib.UnsafeStr
import Derived.Lib.AppendStr
import Derived.Laws.Externs
import Derived.Shelf.Strings.Builder1
import Derived.Shelf.LaysM
import Derived.Shelf.Strconv.Itoa4
import Derived.Test.YtlecpdpdcocibaaDoorProg
import Derived.Lib.AppendIntMem
import Derived.Shelf.Abstract
set_option maxHeartbeats 16000000
set_option maxRecDepth 100000
namespace Go.Proofs.YtlecpdpdcocibaaDoor.P
open Go.RowKit Go.Proofs.YtlecpdpdcocibaaDoorW.PrintWords Go.Proofs.YtlecpdpdcocibaaDoorW.PrintLast Go.Proofs.YtlecpdpdcocibaaDoorW.PrintMore Go.Proofs.YtlecpdpdcocibaaDoorEv
set_option linter.unusedVariables false
set_option linter.unusedSimpArgs false
theorem sizeBld : (Tryd.prog.info? 75).map (·.size) = some 2 := by kernel_rfl
theorem liesBld : liesAt Tryd.prog Tryd.prog.depth 75 (2 / Tryd.prog.cellsOf 75) 0 75 1 = true := by kernel_rfl
theorem copyCheck_used (g : Nat) (w : World) (h0 : w.cell? ⟨g, 0, none⟩ = some (.pointer (some ⟨g, 0, none⟩))) :
    Calls Tryd.prog 85 #[.pointer (some ⟨g, 0, none⟩)] w fun e w' => e = .returned (.tuple #[]) ∧ w' = w := by
  obtain ⟨j, hj, _⟩ := Option.map_eq_some_iff.1 sizeBld
  go_enter Tryd.func85, Tryd.ntmps85
  go_wp2
  rw [Lib.run_neq_ptr_same w _ Tryd.underlying73 hj]
  go_wp2
  go_end0
  exact ⟨rfl, rfl⟩
theorem copyCheck_fresh (g : Nat) (w : World) (h0 : w.cell? ⟨g, 0, none⟩ = some (.pointer none)) (hsh : w.shape? g = some (75, 2)) (hfz : w.frozen? ⟨g, 0, none⟩ = false) :
    Calls Tryd.prog 85 #[.pointer (some ⟨g, 0, none⟩)] w fun e w' => e = .returned (.tuple #[]) ∧ w' = w.setCell ⟨g, 0, none⟩ (.pointer (some ⟨g, 0, none⟩)) := by
  obtain ⟨j, hj, hjs⟩ := Option.map_eq_some_iff.1 sizeBld
  go_enter Tryd.func85, Tryd.ntmps85
  go_wp2
  rw [Lib.run_to_unsafe w ⟨g, 0, none⟩ Tryd.underlying73 Tryd.underlying164 hj (by rw [hjs]; decide) hsh (Nat.zero_lt_succ 1)]
  simp only [Result.andThen]
  rw [Oper.upon_value]
  go_wp2
  rw [run_callFunc_extern Tryd.func114 (by kernel_rfl) (by kernel_rfl) (by kernel_rfl) (e := Extern.AbiNoEscape.same) (by kernel_rfl)]
  rw [Lib.run_noEscape]
  simp only [Result.andThen]
  rw [Oper.upon_value]
  go_wp2
  rw [Lib.run_from_unsafe w ⟨g, 0, none⟩ Tryd.underlying164 Tryd.underlying73 hj hsh liesBld]
  simp only [Result.andThen]
  rw [Oper.upon_value]
  go_wp2
  go_end0
  exact ⟨rfl, rfl⟩
def BW (w0 w : World) (g : Nat) (s : ByteArray) : Prop := w0.heap.size ≤ g ∧ ∃ p v : Value, (p = .pointer none ∨ p = .pointer (some ⟨g, 0, none⟩)) ∧ w.heap[g]? = some (.cells #[p, v] 75 (0, 0)) ∧ w.ownsRow w0.heap.size 5 1 v (bytesOf s).length (nums .u8 (bytesOf s))
def KeepT (w w' : World) (g : Nat) : Prop := w.heap.size ≤ w'.heap.size ∧ ∀ (k : Nat) (cs : Array Value) (t : TypeId), t ≠ 5 → k ≠ g → w.heap[k]? = some (.cells cs t (0, 0)) → w'.heap[k]? = some (.cells cs t (0, 0))
theorem KeepT.refl (w : World) (g : Nat) : KeepT w w g := ⟨Nat.le_refl _, fun _ _ _ _ _ h => h⟩
theorem KeepT.trans {w w1 w2 : World} {g : Nat} (h : KeepT w w1 g) (k : KeepT w1 w2 g) : KeepT w w2 g := ⟨Nat.le_trans h.1 k.1, fun b cs t ht hb hh => k.2 b cs t ht hb (h.2 b cs t ht hb hh)⟩
theorem BW.below {w0 w w' : World} {g : Nat} {s : ByteArray} (h : BW w0 w g s) (hb : Below w.heap.size w w') : BW w0 w' g s := by
  obtain ⟨h0, p, v, hp, hg, ho⟩ := h
  exact ⟨h0, p, v, hp, blk_below hg hb, own_move ho (fun k hk => hb.block k (own_lt ho k hk))⟩
theorem bytesOf_add (s t : ByteArray) : bytesOf (s ++ t) = bytesOf s ++ bytesOf t := by simp [bytesOf]
theorem infoU8_ : (Tryd.prog.info? 5).map (fun i => (i.zero, i.size, i.bytes)) = some (some (.int .u8 0), 1, 1) := by kernel_rfl
theorem copyCheck_ (w0 : World) (g : Nat) (s : ByteArray) (w : World) (h : BW w0 w g s) (hb : Below w0.heap.size w0 w) :
    Calls Tryd.prog 85 #[.pointer (some ⟨g, 0, none⟩)] w fun e w' => e = .returned (.tuple #[]) ∧ w'.heap.size = w.heap.size ∧ (∃ v : Value, w'.heap[g]? = some (.cells #[.pointer (some ⟨g, 0, none⟩), v] 75 (0, 0)) ∧ w'.ownsRow w0.heap.size 5 1 v (bytesOf s).length (nums .u8 (bytesOf s))) ∧ Below w0.heap.size w0 w' ∧ KeepT w w' g := by
  obtain ⟨h0, p, v, hp, hg, ho⟩ := h
  have hc : w.cell? ⟨g, 0, none⟩ = some p := (blk_cell hg 0).trans rfl
  rcases hp with rfl | rfl
  · have hsh : w.shape? g = some (75, 2) := by simp [World.shape?, hg]
    refine (copyCheck_fresh g w hc hsh (blk_frozen hg 0)).mono ?_
    rintro e w' ⟨rfl, rfl⟩
    refine ⟨rfl, by simp [World.setCell], ⟨v, blk_put hg 0 _ rfl, own_setCell ho (own_ne ho hg (by decide)) _⟩, below_set hb h0, by simp [World.setCell], fun k cs t ht hk hh => blk_far hh hk _⟩
  · refine (copyCheck_used g w hc).mono ?_
    rintro e w' ⟨rfl, rfl⟩
    exact ⟨rfl, rfl, ⟨v, hg, ho⟩, hb, KeepT.refl _ _⟩
theorem WriteString_ (w0 : World) (g : Nat) (s t : ByteArray) (w : World) (h : BW w0 w g s) (hb : Below w0.heap.size w0 w) (hl : s.size + t.size ≤ 140737488355328) :
    Calls Tryd.prog 44 #[.pointer (some ⟨g, 0, none⟩), .string t] w fun e w' => (∃ x y : Value, e = .returned (.tuple #[x, y])) ∧ BW w0 w' g (s ++ t) ∧ Below w0.heap.size w0 w' ∧ KeepT w w' g := by
  have HW := q_ h.1
  have hbs : (bytesOf s).length = s.size := bytesOf_length s
  go_enter Tryd.func44, Tryd.ntmps44
  go_wp2_with (go_at_call 85; refine (copyCheck_ w0 g s _ h hb).mono ?_)
  rintro e w1 ⟨rfl, hsz, ⟨v, hg, ho⟩, hb1, hk1⟩
  have c1 : w1.cell? ⟨g, 1, none⟩ = some v := (blk_cell hg 1).trans rfl
  go_wp2_with (at_builtin; refine print_append_str (w0 := w0) w0.heap.size rfl (.tmp 12) (.tmp 13) 51 9 5 rfl Tryd.underlying51 Tryd.underlying9 infoU8_ v (bytesOf s) t rfl rfl ?aO ?aB ?aS ?aL ?_)
  case aO => exact ho
  case aB => exact hb1
  case aS => exact hb1.size
  case aL => omega
  intro v2 w2 ho2 hb2 hgr
  have hg2 := blk_grown hg hgr (own_ne ho hg (by decide))
  have f1 := blk_frozen hg2 1
  have c2 : w2.cell? ⟨g, 1, none⟩ = some v := (blk_cell hg2 1).trans rfl
  obtain ⟨A2, c2_, rfl⟩ := own_slice ho2
  go_wp2
  go_ret2
  refine ⟨⟨_, _, rfl⟩, ⟨HW.o, _, _, .inr rfl, blk_put hg2 1 _ rfl, ?_⟩, below_set hb2 HW.o, ?_⟩
  · rw [bytesOf_add, List.length_append, hbs]
    exact own_setCell (p := ⟨g, 1, none⟩) ho2 (own_ne ho2 hg2 (by decide)) _
  · refine hk1.trans ⟨by simpa [World.setCell] using hgr.size, fun k cs ty ht hk hh => blk_far (blk_grown hh hgr (own_ne ho hh (fun e => ht e.symm))) hk _⟩
end Go.Proofs.YtlecpdpdcocibaaDoor.P
namespace Go.Proofs
open Go.Shelf
set_option linter.unusedVariables false
set_option linter.unusedSimpArgs false
def Tryd.lays170_ren : Go.Shelf.Ren := ⟨fun | 170 => 46 | n => n, fun | 70 => 73 | 3 => 3 | 0 => 0 | 72 => 75 | 37 => 51 | 5 => 5 | n => n, fun | n => n⟩
theorem Tryd.lays170 : Go.Proofs.Lays.n170 Tryd.prog Tryd.lays170_ren := {
  mixed := by kernel_rfl
  f170 := Tryd.func46.trans (congrArg some (by kernel_rfl))
  t0 := Tryd.underlying0
  a0 := Tryd.isAgg0
  z0 := Tryd.sizeOf0
  v0 := Tryd.zeroValue0
  t3 := Tryd.underlying3
  a3 := Tryd.isAgg3
  z3 := Tryd.sizeOf3
  v3 := Tryd.zeroValue3
  t37 := Tryd.underlying51
  a37 := Tryd.isAgg51
  z37 := Tryd.sizeOf51
  v37 := Tryd.zeroValue51
  t70 := Tryd.underlying73
  a70 := Tryd.isAgg73
  z70 := Tryd.sizeOf73
  v70 := Tryd.zeroValue73
  t72 := Tryd.underlying75
  a72 := Tryd.isAgg75
  z72 := Tryd.sizeOf75
  v72 := Tryd.zeroValue75 }
open Go.RowKit in
theorem Tryd.Builder_Len (B b : Nat) (bs : List Value) (w : World) (h : Lib.IsBuilder 75 5 B b bs w) :
    Calls Tryd.prog 46 #[.pointer (some ⟨b, 0, none⟩)] w fun e w' => e = .returned (.int .i64 bs.length) ∧ w' = w := Any.Builder_Len Tryd.lays170 B b bs w h
def Tryd.lays169_ren : Go.Shelf.Ren := ⟨fun | 169 => 47 | n => n, fun | 70 => 73 | 9 => 9 | 0 => 0 | 72 => 75 | 37 => 51 | 127 => 135 | 3 => 3 | 5 => 5 | n => n, fun | n => n⟩
theorem Tryd.lays169 : Go.Proofs.Lays.n169 Tryd.prog Tryd.lays169_ren := {
  mixed := by kernel_rfl
  f169 := Tryd.func47.trans (congrArg some (by kernel_rfl))
  t0 := Tryd.underlying0
  a0 := Tryd.isAgg0
  z0 := Tryd.sizeOf0
  v0 := Tryd.zeroValue0
  t3 := Tryd.underlying3
  a3 := Tryd.isAgg3
  z3 := Tryd.sizeOf3
  v3 := Tryd.zeroValue3
  t9 := Tryd.underlying9
  a9 := Tryd.isAgg9
  z9 := Tryd.sizeOf9
  v9 := Tryd.zeroValue9
  t37 := Tryd.underlying51
  a37 := Tryd.isAgg51
  z37 := Tryd.sizeOf51
  v37 := Tryd.zeroValue51
  t70 := Tryd.underlying73
  a70 := Tryd.isAgg73
  z70 := Tryd.sizeOf73
  v70 := Tryd.zeroValue73
  t72 := Tryd.underlying75
  a72 := Tryd.isAgg75
  z72 := Tryd.sizeOf75
  v72 := Tryd.zeroValue75
  t127 := Tryd.underlying135
  a127 := Tryd.isAgg135
  z127 := Tryd.sizeOf135
  v127 := Tryd.zeroValue135 }
theorem Tryd.Builder_Extra_169 : Builder.Extra Tryd.prog Tryd.lays169_ren := {
  sizeBuilder := by kernel_rfl
  liesBuilder := by kernel_rfl
  t5 := Tryd.underlying5
  a5 := Tryd.isAgg5
  z5 := Tryd.sizeOf5
  v5 := Tryd.zeroValue5
  infoByte := by kernel_rfl
  cellsByte := by kernel_rfl
  sizeByte := by kernel_rfl
  neB5 := by decide }
open Go.RowKit in
theorem Tryd.Builder_String (B b : Nat) (l : List UInt8) (w : World) (h : Lib.IsBuilder 75 5 B b (Lib.byteCells l) w) (h0 : l ≠ []) :
    Calls Tryd.prog 47 #[.pointer (some ⟨b, 0, none⟩)] w fun e w' => e = .returned (.string ⟨l.toArray⟩) ∧ Below B w w' := Any.Builder_String Tryd.lays169 Tryd.Builder_Extra_169 B b l w h h0
open Go.RowKit in
theorem Tryd.Builder_String_empty (B b : Nat) (w : World) (h : Lib.IsBuilder 75 5 B b [] w) (hBw : B ≤ w.heap.size) :
    Calls Tryd.prog 47 #[.pointer (some ⟨b, 0, none⟩)] w fun e w' => e = .returned (.string ⟨#[]⟩) ∧ Below B w w' := Any.Builder_String_empty Tryd.lays169 Tryd.Builder_Extra_169 B b w h hBw
open Go.RowKit in
theorem Tryd.Builder_String_any (B b : Nat) (l : List UInt8) (w : World) (h : Lib.IsBuilder 75 5 B b (Lib.byteCells l) w) (hBw : B ≤ w.heap.size) :
    Calls Tryd.prog 47 #[.pointer (some ⟨b, 0, none⟩)] w fun e w' => e = .returned (.string ⟨l.toArray⟩) ∧ Below B w w' := Any.Builder_String_any Tryd.lays169 Tryd.Builder_Extra_169 B b l w h hBw
def Tryd.laysM173_ren : Go.Shelf.Ren := ⟨fun | 173 => 86 | 246 => 115 | 283 => 138 | 284 => 139 | 285 => 140 | 286 => 141 | 129 => 152 | 317 => 151 | 318 => 153 | 319 => 154 | 320 => 155 | 337 => 157 | 338 => 158 | n => n, fun | 2 => 2 | 3 => 3 | 9 => 9 | 4 => 4 | 171 => 184 | 0 => 0 | 53 => 179 | 37 => 51 | 5 => 5 | 173 => 187 | 212 => 198 | 51 => 199 | 20 => 20 | 213 => 200 | 46 => 181 | 232 => 204 | 233 => 205 | n => n, fun | 17 => 0 | 18 => 1 | 19 => 2 | n => n⟩
theorem Tryd.laysM173 : Go.Proofs.LaysM.n173 Tryd.prog Tryd.laysM173_ren := {
  mixed := by kernel_rfl
  f129 := Tryd.func152.trans (congrArg some (by kernel_rfl))
  f173 := Tryd.func86.trans (congrArg some (by kernel_rfl))
  f246 := Tryd.func115.trans (congrArg some (by kernel_rfl))
  f283 := Tryd.func138.trans (congrArg some (by kernel_rfl))
  f284 := Tryd.func139.trans (congrArg some (by kernel_rfl))
  f285 := Tryd.func140.trans (congrArg some (by kernel_rfl))
  f286 := Tryd.func141.trans (congrArg some (by kernel_rfl))
  f317 := Tryd.func151.trans (congrArg some (by kernel_rfl))
  f318 := Tryd.func153.trans (congrArg some (by kernel_rfl))
  f319 := Tryd.func154.trans (congrArg some (by kernel_rfl))
  f320 := Tryd.func155.trans (congrArg some (by kernel_rfl))
  f337 := Tryd.func157.trans (congrArg some (by kernel_rfl))
  f338 := Tryd.func158.trans (congrArg some (by kernel_rfl))
  t0 := Tryd.underlying0
  a0 := Tryd.isAgg0
  z0 := Tryd.sizeOf0
  v0 := Tryd.zeroValue0
  t2 := Tryd.underlying2
  a2 := Tryd.isAgg2
  z2 := Tryd.sizeOf2
  v2 := Tryd.zeroValue2
  t3 := Tryd.underlying3
  a3 := Tryd.isAgg3
  z3 := Tryd.sizeOf3
  v3 := Tryd.zeroValue3
  t4 := Tryd.underlying4
  a4 := Tryd.isAgg4
  z4 := Tryd.sizeOf4
  v4 := Tryd.zeroValue4
  t5 := Tryd.underlying5
  a5 := Tryd.isAgg5
  z5 := Tryd.sizeOf5
  v5 := Tryd.zeroValue5
  t9 := Tryd.underlying9
  a9 := Tryd.isAgg9
  z9 := Tryd.sizeOf9
  v9 := Tryd.zeroValue9
  t20 := Tryd.underlying20
  a20 := Tryd.isAgg20
  z20 := Tryd.sizeOf20
  v20 := Tryd.zeroValue20
  t37 := Tryd.underlying51
  a37 := Tryd.isAgg51
  z37 := Tryd.sizeOf51
  v37 := Tryd.zeroValue51
  t46 := Tryd.underlying181
  a46 := Tryd.isAgg181
  z46 := Tryd.sizeOf181
  v46 := Tryd.zeroValue181
  t51 := Tryd.underlying199
  a51 := Tryd.isAgg199
  z51 := Tryd.sizeOf199
  v51 := Tryd.zeroValue199
  t53 := Tryd.underlying179
  a53 := Tryd.isAgg179
  z53 := Tryd.sizeOf179
  v53 := Tryd.zeroValue179
  t171 := Tryd.underlying184
  a171 := Tryd.isAgg184
  z171 := Tryd.sizeOf184
  v171 := Tryd.zeroValue184
  t173 := Tryd.underlying187
  a173 := Tryd.isAgg187
  z173 := Tryd.sizeOf187
  v173 := Tryd.zeroValue187
  t212 := Tryd.underlying198
  a212 := Tryd.isAgg198
  z212 := Tryd.sizeOf198
  v212 := Tryd.zeroValue198
  t213 := Tryd.underlying200
  a213 := Tryd.isAgg200
  z213 := Tryd.sizeOf200
  t232 := Tryd.underlying204
  a232 := Tryd.isAgg204
  z232 := Tryd.sizeOf204
  v232 := Tryd.zeroValue204
  t233 := Tryd.underlying205
  a233 := Tryd.isAgg205
  z233 := Tryd.sizeOf205
  v233 := Tryd.zeroValue205
  g17 := by kernel_rfl
  g18 := by kernel_rfl
  g19 := by kernel_rfl
  i0 := by kernel_rfl
  i2 := by kernel_rfl
  i3 := by kernel_rfl
  i4 := by kernel_rfl
  i5 := by kernel_rfl
  i9 := by kernel_rfl
  i20 := by kernel_rfl
  i37 := by kernel_rfl
  i46 := by kernel_rfl
  i51 := by kernel_rfl
  i53 := by kernel_rfl
  i171 := by kernel_rfl
  i173 := by kernel_rfl
  i212 := by kernel_rfl
  i232 := by kernel_rfl
  i233 := by kernel_rfl
  m17 := by kernel_rfl
  m18 := by kernel_rfl
  m19 := by kernel_rfl }
open Go.RowKit Go.Sort Go.Lib in
theorem Tryd.strconv_FormatInt_10 (n : Int) (h0 : -9223372036854775808 ≤ n) (h1 : n ≤ 9223372036854775807) (w : World) (htab : Lib.TabIs Tryd.prog w "internal/strconv.uint64pow10" .u64 Lib.pow10Tab) :
    Calls Tryd.prog 86 #[.int .i64 n, .int .i64 10] w fun e w' => e = .returned (.string ⟨(Lib.itoa n).toArray⟩) ∧ ∃ k os, w' = grow (w.drewN k) os := Any.strconv_FormatInt_10 Tryd.laysM173 n h0 h1 w htab
def Tryd.lays173_ren : Go.Shelf.Ren := ⟨fun | 173 => 86 | 246 => 115 | 283 => 138 | 284 => 139 | 285 => 140 | 286 => 141 | 129 => 152 | 317 => 151 | 318 => 153 | 319 => 154 | 320 => 155 | 337 => 157 | 338 => 158 | n => n, fun | 2 => 2 | 3 => 3 | 9 => 9 | 4 => 4 | 171 => 184 | 0 => 0 | 53 => 179 | 37 => 51 | 5 => 5 | 173 => 187 | 212 => 198 | 51 => 199 | 20 => 20 | 213 => 200 | 46 => 181 | 232 => 204 | 233 => 205 | n => n, fun | 17 => 0 | 18 => 1 | 19 => 2 | n => n⟩
theorem Tryd.lays173 : Go.Proofs.Lays.n173 Tryd.prog Tryd.lays173_ren := {
  mixed := by kernel_rfl
  f129 := Tryd.func152.trans (congrArg some (by kernel_rfl))
  f173 := Tryd.func86.trans (congrArg some (by kernel_rfl))
  f246 := Tryd.func115.trans (congrArg some (by kernel_rfl))
  f283 := Tryd.func138.trans (congrArg some (by kernel_rfl))
  f284 := Tryd.func139.trans (congrArg some (by kernel_rfl))
  f285 := Tryd.func140.trans (congrArg some (by kernel_rfl))
  f286 := Tryd.func141.trans (congrArg some (by kernel_rfl))
  f317 := Tryd.func151.trans (congrArg some (by kernel_rfl))
  f318 := Tryd.func153.trans (congrArg some (by kernel_rfl))
  f319 := Tryd.func154.trans (congrArg some (by kernel_rfl))
  f320 := Tryd.func155.trans (congrArg some (by kernel_rfl))
  f337 := Tryd.func157.trans (congrArg some (by kernel_rfl))
  f338 := Tryd.func158.trans (congrArg some (by kernel_rfl))
  t0 := Tryd.underlying0
  a0 := Tryd.isAgg0
  z0 := Tryd.sizeOf0
  v0 := Tryd.zeroValue0
  t2 := Tryd.underlying2
  a2 := Tryd.isAgg2
  z2 := Tryd.sizeOf2
  v2 := Tryd.zeroValue2
  t3 := Tryd.underlying3
  a3 := Tryd.isAgg3
  z3 := Tryd.sizeOf3
  v3 := Tryd.zeroValue3
  t4 := Tryd.underlying4
  a4 := Tryd.isAgg4
  z4 := Tryd.sizeOf4
  v4 := Tryd.zeroValue4
  t5 := Tryd.underlying5
  a5 := Tryd.isAgg5
  z5 := Tryd.sizeOf5
  v5 := Tryd.zeroValue5
  t9 := Tryd.underlying9
  a9 := Tryd.isAgg9
  z9 := Tryd.sizeOf9
  v9 := Tryd.zeroValue9
  t20 := Tryd.underlying20
  a20 := Tryd.isAgg20
  z20 := Tryd.sizeOf20
  v20 := Tryd.zeroValue20
  t37 := Tryd.underlying51
  a37 := Tryd.isAgg51
  z37 := Tryd.sizeOf51
  v37 := Tryd.zeroValue51
  t46 := Tryd.underlying181
  a46 := Tryd.isAgg181
  z46 := Tryd.sizeOf181
  v46 := Tryd.zeroValue181
  t51 := Tryd.underlying199
  a51 := Tryd.isAgg199
  z51 := Tryd.sizeOf199
  v51 := Tryd.zeroValue199
  t53 := Tryd.underlying179
  a53 := Tryd.isAgg179
  z53 := Tryd.sizeOf179
  v53 := Tryd.zeroValue179
  t171 := Tryd.underlying184
  a171 := Tryd.isAgg184
  z171 := Tryd.sizeOf184
  v171 := Tryd.zeroValue184
  t173 := Tryd.underlying187
  a173 := Tryd.isAgg187
  z173 := Tryd.sizeOf187
  v173 := Tryd.zeroValue187
  t212 := Tryd.underlying198
  a212 := Tryd.isAgg198
  z212 := Tryd.sizeOf198
  v212 := Tryd.zeroValue198
  t213 := Tryd.underlying200
  a213 := Tryd.isAgg200
  z213 := Tryd.sizeOf200
  t232 := Tryd.underlying204
  a232 := Tryd.isAgg204
  z232 := Tryd.sizeOf204
  v232 := Tryd.zeroValue204
  t233 := Tryd.underlying205
  a233 := Tryd.isAgg205
  z233 := Tryd.sizeOf205
  v233 := Tryd.zeroValue205
  g17 := by kernel_rfl
  g18 := by kernel_rfl
  g19 := by kernel_rfl }
open Go.RowKit Go.Sort Go.Lib in
theorem Tryd.strconv_FormatInt_10_small (i : Nat) (hi : i < 100) (w : World) :
    Calls Tryd.prog 86 #[.int .i64 i, .int .i64 10] w fun e w' => e = .returned (.string ⟨(Lib.decDigits i).toArray⟩) ∧ w' = w := Any.strconv_FormatInt_10_small Tryd.lays173 i hi w
end Go.Proofs
namespace Go.Proofs.YtlecpdpdcocibaaDoor.P
open Go.RowKit Go.Proofs.YtlecpdpdcocibaaDoorW.PrintWords Go.Proofs.YtlecpdpdcocibaaDoorW.PrintLast Go.Proofs.YtlecpdpdcocibaaDoorW.PrintMore Go.Proofs.YtlecpdpdcocibaaDoorEv
set_option linter.unusedVariables false
set_option linter.unusedSimpArgs false
theorem cells_text (s : ByteArray) : Lib.byteCells s.data.toList = nums .u8 (bytesOf s) := by simp [Lib.byteCells, nums, bytesOf]
theorem BW.builder {w0 w : World} {g : Nat} {s : ByteArray} (h : BW w0 w g s) : Lib.IsBuilder 75 5 w0.heap.size g (Lib.byteCells s.data.toList) w := by
  obtain ⟨h0, p, v, hp, hg, ho⟩ := h
  have hB : Lib.BuilderAt 75 5 w0.heap.size g p (Lib.byteCells s.data.toList) w := by
    refine ⟨h0, v, hg, ?_, fun e => own_ne ho hg (by decide) e.symm⟩
    rw [cells_text]
    have : (nums .u8 (bytesOf s)).length = (bytesOf s).length := by simp [nums]
    rw [this]
    exact ho
  rcases hp with rfl | rfl
  · exact .inl hB
  · exact .inr hB
theorem Len_ (w0 : World) (g : Nat) (s : ByteArray) (w : World) (h : BW w0 w g s) :
    Calls Tryd.prog 46 #[.pointer (some ⟨g, 0, none⟩)] w fun e w' => e = .returned (.int .i64 (s.size : Nat)) ∧ w' = w := by
  refine (Tryd.Builder_Len w0.heap.size g _ w h.builder).mono ?_
  rintro e w' ⟨rfl, rfl⟩
  refine ⟨?_, rfl⟩
  rw [cells_text]
  simp [nums, bytesOf_length]
theorem String_ (w0 : World) (g : Nat) (s : ByteArray) (w : World) (h : BW w0 w g s) (hb : Below w0.heap.size w0 w) :
    Calls Tryd.prog 47 #[.pointer (some ⟨g, 0, none⟩)] w fun e w' => e = .returned (.string s) ∧ Below w0.heap.size w0 w' := by
  refine (Tryd.Builder_String_any w0.heap.size g s.data.toList w h.builder hb.size).mono ?_
  rintro e w' ⟨rfl, hb2⟩
  exact ⟨by simp, hb.trans hb2⟩
def dec (n : Int) : ByteArray := ⟨(Lib.itoa n).toArray⟩
def Tab (w : World) : Prop := Lib.TabIs Tryd.prog w "internal/strconv.uint64pow10" .u64 Lib.pow10Tab
theorem Tab.below {w w' : World} (h : Tab w) (hb : Below w.heap.size w w') : Tab w' := Lib.tabBelow_of_tabIs h w' hb
theorem text_ (n : Int) (h0 : -9223372036854775808 ≤ n) (h1 : n ≤ 9223372036854775807) (w : World) (ht : Tab w) :
    Calls Tryd.prog 45 #[.int .i64 n] w fun e w' => e = .returned (.string (dec n)) ∧ Below w.heap.size w w' := by
  go_enter Tryd.func45, Tryd.ntmps45
  go_wp2_with (go_at_call 86; refine (Tryd.strconv_FormatInt_10 n h0 h1 w ht).mono ?_; rintro e w' ⟨rfl, k, os, rfl⟩)
  go_ret
  exact ⟨rfl, Lib.below_grow _ _ (Nat.le_refl _) _ _⟩
theorem dec_few (n : Int) (h0 : 0 ≤ n) (h1 : n < 10000) : (dec n).size ≤ 4 := by
  obtain ⟨u, rfl⟩ : ∃ u : Nat, n = (u : Int) := ⟨n.toNat, by omega⟩
  have hu : u < 10000 := by omega
  have e : (dec (u : Int)).size = (Lib.decDigits u).length := by
    show (Lib.itoa (u : Int)).toArray.size = _
    rw [List.size_toArray]
    unfold Lib.itoa
    rw [if_neg (by omega), Int.toNat_natCast]
  rw [e]
  have step : ∀ (m v : Nat), (∀ q, q < m → (Lib.decDigits q).length ≤ v) → ∀ q, q < 10 * m → (Lib.decDigits q).length ≤ v + 1 := by
    intro m v hm q hq
    rw [Lib.decDigits]
    split
    · simp
    · rw [List.length_append]
      have := hm (q / 10) (by omega)
      simp only [List.length_singleton]
      omega
  have a1 : ∀ q, q < 10 → (Lib.decDigits q).length ≤ 1 := fun q hq => by rw [Lib.decDigits, dif_pos hq]; simp
  exact step 1000 3 (step 100 2 (step 10 1 a1)) u hu
end Go.Proofs.YtlecpdpdcocibaaDoor.P
namespace Go.Proofs.YtlecpdpdcocibaaDoor.P
open Go.RowKit Go.Proofs.YtlecpdpdcocibaaDoorW.PrintWords Go.Proofs.YtlecpdpdcocibaaDoorW.PrintLast Go.Proofs.YtlecpdpdcocibaaDoorW.PrintMore
attribute [local go_sem] max2_int min2_int max_two min_two max_three min_three max_four min_four
set_option linter.unusedVariables false
set_option linter.unusedSimpArgs false
/-! ### impl_within: function 57 -/
def impl_within.f (a0 : Int) (a1 : Int) (a2 : Int) : Option (Bool) := if a0 ≥ a1 then (some (decide (a0 ≤ a2))) else (some false)
theorem impl_within.calls (a0 : Int) (a1 : Int) (a2 : Int) (r : Bool) (w : World) (h : impl_within.f a0 a1 a2 = some r) :
  Calls Tryd.prog 57 #[.int .i64 a0, .int .i64 a1, .int .i64 a2] w fun e w' => e = .returned (.bool r) ∧ Drawn0 w w' := by
 have H : (if a0 ≥ a1 then (some (decide (a0 ≤ a2))) else (some false)) = some r := h
 clear h
 by_cases c4 : a0 ≥ a1
 ·rw [if_pos c4] at H
  have c4b0 : decide (a1 ≤ a0) = true := dt_ c4
  clear c4; obtain rfl := Option.some.inj H
  go_enter Tryd.func57, Tryd.ntmps57
  go_wp2
  go_ret
  exact ⟨by first | rfl | (simp; done) | (simp [*]; done), by repeat (first | exact Drawn0.refl _ | apply Drawn0.step)⟩
 ·rw [if_neg c4] at H
  have c4b0 : decide (a1 ≤ a0) = false := df_ c4
  clear c4; obtain rfl := Option.some.inj H
  go_enter Tryd.func57, Tryd.ntmps57
  go_wp2
  go_ret
  exact ⟨by first | rfl | (simp; done) | (simp [*]; done), by repeat (first | exact Drawn0.refl _ | apply Drawn0.step)⟩
/-! ### spec_l1In: function 54 -/
def spec_l1In.f (a0 : Int) (a1 : Int) (a2 : Int) : Option (Bool) := if a0 ≥ a1 then (some (decide (a0 ≤ a2))) else (some false)
theorem spec_l1In.calls (a0 : Int) (a1 : Int) (a2 : Int) (r : Bool) (w : World) (h : spec_l1In.f a0 a1 a2 = some r) :
  Calls Tryd.prog 54 #[.int .i64 a0, .int .i64 a1, .int .i64 a2] w fun e w' => e = .returned (.bool r) ∧ Drawn0 w w' := by
 have H : (if a0 ≥ a1 then (some (decide (a0 ≤ a2))) else (some false)) = some r := h
 clear h
 by_cases c4 : a0 ≥ a1
 ·rw [if_pos c4] at H
  have c4b0 : decide (a1 ≤ a0) = true := dt_ c4
  clear c4; obtain rfl := Option.some.inj H
  go_enter Tryd.func54, Tryd.ntmps54
  go_wp2
  go_ret
  exact ⟨by first | rfl | (simp; done) | (simp [*]; done), by repeat (first | exact Drawn0.refl _ | apply Drawn0.step)⟩
 ·rw [if_neg c4] at H
  have c4b0 : decide (a1 ≤ a0) = false := df_ c4
  clear c4; obtain rfl := Option.some.inj H
  go_enter Tryd.func54, Tryd.ntmps54
  go_wp2
  go_ret
  exact ⟨by first | rfl | (simp; done) | (simp [*]; done), by repeat (first | exact Drawn0.refl _ | apply Drawn0.step)⟩
end Go.Proofs.YtlecpdpdcocibaaDoor.P
namespace Go.Proofs.YtlecpdpdcocibaaDoor.P
open Go.RowKit Go.Proofs.YtlecpdpdcocibaaDoorW.PrintWords Go.Proofs.YtlecpdpdcocibaaDoorW.PrintLast Go.Proofs.YtlecpdpdcocibaaDoorEv
set_option linter.unusedVariables false
set_option linter.unusedSimpArgs false
theorem spec_l1In_eq (a b c : Int) : spec_l1In.f a b c = some (decide (b ≤ a ∧ a ≤ c)) := by
  unfold spec_l1In.f
  by_cases h : a ≥ b <;> simp [h]
theorem impl_within_eq (a b c : Int) : impl_within.f a b c = some (decide (b ≤ a ∧ a ≤ c)) := by
  unfold impl_within.f
  by_cases h : a ≥ b <;> simp [h]
end Go.Proofs.YtlecpdpdcocibaaDoor.P
namespace Go.Proofs.YtlecpdpdcocibaaDoor.P
open Go.RowKit Go.Proofs.YtlecpdpdcocibaaDoorW.PrintWords Go.Proofs.YtlecpdpdcocibaaDoorW.PrintLast Go.Proofs.YtlecpdpdcocibaaDoorW.PrintMore
attribute [local go_sem] max2_int min2_int max_two min_two max_three min_three max_four min_four
set_option linter.unusedVariables false
set_option linter.unusedSimpArgs false
/-! ### impl_armsOk: function 84 -/
def impl_armsOk.l0 : Nat → List (S71) → Int → List (S71) → Int → Int → Option (Bool)
 | 0, _, _, _, _, _ => none
 | k + 1, x0, x1, x7, x8, x9 => if x9 < x8 then (if 0 ≤ x9 then (if x9 < (x7.length : Int) then (if ((rd_T71 x7 x9).f0) < 0 then (some false) else (if ((rd_T71 x7 x9).f0) > ((rd_T71 x7 x9).f1) then (some false) else (if ((rd_T71 x7 x9).f1) > 255 then (some false) else (if x9 > 0 then (if 0 ≤ (wrap64 (x9 - 1)) then (if (wrap64 (x9 - 1)) < (x0.length : Int) then (if ((rd_T71 x7 x9).f0) ≤ ((rd_T71 x0 (wrap64 (x9 - 1))).f1) then (some false) else ((impl_within.f ((rd_T71 x7 x9).f2) 0 (wrap64 (x1 - 1))).bind fun t104 => (if t104 = true then (impl_armsOk.l0 k x0 x1 x7 x8 (wrap64 (x9 + 1))) else (some false)))) else (none)) else (none)) else ((impl_within.f ((rd_T71 x7 x9).f2) 0 (wrap64 (x1 - 1))).bind fun t105 => (if t105 = true then (impl_armsOk.l0 k x0 x1 x7 x8 (wrap64 (x9 + 1))) else (some false))))))) else (none)) else (none)) else (some true)
def impl_armsOk.f (k : Nat) (l0 : List (S71)) (a1 : Int) : Option (Bool) := impl_armsOk.l0 k l0 a1 l0 (l0.length : Int) 0
def impl_armsOk.T4 : Bool × List (List Nat × List Nat) := (true, [([], []), ([0], [0]), ([1], [1]), ([2], [2]), ([3], [3]), ([4, 3], [3, 4]), ([3], [3]), ([6, 3], [3, 6]), ([5, 7, 3], [3, 5, 7]), ([3, 8], [3, 8]), ([9, 3], [9]), ([10], [10]), ([11, 10], [10, 11]), ([12, 10], [10, 12]), ([10, 13], [10, 13]), ([14, 10], [14]), ([15], [15]), ([16, 15], [15, 16]), ([17, 15, 15], [15, 17]), ([18], [18]), ([19, 18], [18, 19]), ([18], [18]), ([18], [18]), ([22, 18], [18, 22]), ([21, 23, 18], [18, 21, 23]), ([24, 18], [18, 24]), ([25, 18], [18, 25]), ([20, 26, 18], [18, 20, 26]), ([18, 27, 15], [15, 18, 27]), ([15, 28], [15, 28]), ([29, 18], [29]), ([30], [30]), ([31, 30], [30, 31]), ([30], [30]), ([33, 30], [30, 33]), ([32, 34, 30, 30], [30, 32, 34]), ([35, 30], [30, 35]), ([30, 36], [30, 36])])
def impl_armsOk.B4 : List Nat := [0, 1, 3, 7, 15, 31, 15, 79, 255, 511, 1023, 2047, 4095, 8191, 16383, 32767, 65535, 131071, 262143, 524287, 1048575, 524287, 524287, 4718591, 15204351, 31981567, 65535999, 134217727, 268435455, 536870911, 1073741823, 2147483647, 4294967295, 2147483647, 10737418239, 34359738367, 68719476735, 137438953471]
theorem impl_armsOk.tab4 : rtab .any (opsOf Tryd.f84 4) = impl_armsOk.T4 := by kernel_rfl
theorem impl_armsOk.bits4 : waitsOk impl_armsOk.T4.2 impl_armsOk.B4 = true := by kernel_rfl
theorem impl_armsOk.calls (k : Nat) (A0 : Option Addr) (c0 : Nat) (l0 : List (S71)) (a1 : Int) (r : Bool) (w : World) (hr0 : Kd.C k71 w A0 l0.length l0) (hc0 : l0.length ≤ c0) (h : impl_armsOk.f k l0 a1 = some r) :
  Calls Tryd.prog 84 #[.slice A0 l0.length c0, .int .i64 a1] w fun e w' => e = .returned (.bool r) ∧ Below w.heap.size w w' := by
 have hu71 := Tryd.underlying71; have HR0 := q_ hr0; have HC0 := q_ hc0; clear hr0 hc0; have HB := q_ (Below.refl w.heap.size w)
 have H : (impl_armsOk.l0 k l0 a1 l0 (l0.length : Int) 0) = some r := h
 clear h
 have H' := q_ H
 clear H
 go_enter Tryd.func84, Tryd.ntmps84
 go_wp2
 go_loopg [9] k (fun kq v9 w' => ∃ (x9_1 : Int), v9 = .int .i64 x9_1 ∧ J0 (impl_armsOk.l0 kq l0 a1 l0 (l0.length : Int) x9_1 = some r) ∧ J0 (kq ≤ k) ∧ J0 (Below w.heap.size w w'))
 case atStart => exact ⟨(0), rs_, H', ⟨Nat.le_refl _⟩, ⟨be_ HB.o⟩⟩
 case round =>
  clear H'; obtain ⟨x9_1, rfl, HA, HK1, HB⟩ := hrel
  cases gk with
  | zero => exact absurd HA.o (by simp [impl_armsOk.l0])
  | succ k1 =>
   have H := HA.o; clear HA
   simp only [impl_armsOk.l0] at H
   by_cases c3 : x9_1 < (l0.length : Int)
   ·rw [if_pos c3] at H; have c3b0 := dt_ c3; clear c3
    by_cases c4 : 0 ≤ x9_1
    ·rw [if_pos c4] at H; have c4b0 := dt_ c4; clear c4
     by_cases c5 : x9_1 < (l0.length : Int)
     ·rw [if_pos c5] at H; have c5b0 := dt_ c5; clear c5
      by_cases c6 : ((rd_T71 l0 x9_1).f0) < 0
      ·rw [if_pos c6] at H; have c6b0 := dt_ c6; clear c6; obtain rfl := Option.some.inj H
       have p101 : 0 ≤ (x9_1 : Int) := of_decide_eq_true as_
       have q101 : x9_1 < (l0.length : Int) := of_decide_eq_true as_
       obtain ⟨ad101, e101, hx101_0, hx101_1, hx101_2⟩ := at_T71 HR0.o x9_1 p101 q101
       cases e101
       replace hx101_0 := mv_ HB.o hx101_0; replace hx101_1 := mv_ HB.o hx101_1; replace hx101_2 := mv_ HB.o hx101_2; replace p101 := eq_true p101; replace q101 := eq_true q101
       try go_wp2_with (first | ((with_reducible refine gate_dst (N := 6) rfl ?_); refine bx_ 6 #[.int .i64 0, .int .i64 0, .int .i64 0] 71 ?_; intro gb102 hg w7 hbox hb; have BK102 := q_ (hbox); have GE102 := ge_ hg HB; replace HB := sb_ HB hb; clear hb hbox hg; obtain ⟨hcz8_0, hcz8_1, hcz8_2, hfz8_0, hfz8_1, hfz8_2⟩ := d3_ BK102))
       have n0_ : J0 ((((w7.setCell ⟨gb102, 0, none⟩ (.int .i64 ((rd_T71 l0 x9_1).f0))).setCell ⟨gb102, 1, none⟩ (.int .i64 ((rd_T71 l0 x9_1).f1))).setCell ⟨gb102, 2, none⟩ (.int .i64 ((rd_T71 l0 x9_1).f2))).heap[gb102]? = some (.cells #[.int .i64 ((rd_T71 l0 x9_1).f0), .int .i64 ((rd_T71 l0 x9_1).f1), .int .i64 ((rd_T71 l0 x9_1).f2)] 71 (0, 0))) := ⟨by (with_reducible repeat (first | refine blk_drewN ?_ _ | refine blk_drew ?_ | refine blk_alloc ?_ _)); refine blk_put (cs := #[.int .i64 ((rd_T71 l0 x9_1).f0), .int .i64 ((rd_T71 l0 x9_1).f1), .int .i64 0]) ?_ 2 _ rfl; (with_reducible repeat (first | refine blk_drewN ?_ _ | refine blk_drew ?_ | refine blk_alloc ?_ _)); refine blk_put (cs := #[.int .i64 ((rd_T71 l0 x9_1).f0), .int .i64 0, .int .i64 0]) ?_ 1 _ rfl; (with_reducible repeat (first | refine blk_drewN ?_ _ | refine blk_drew ?_ | refine blk_alloc ?_ _)); refine blk_put (cs := #[.int .i64 0, .int .i64 0, .int .i64 0]) ?_ 0 _ rfl; (with_reducible repeat (first | refine blk_drewN ?_ _ | refine blk_drew ?_ | refine blk_alloc ?_ _)); exact BK102.o⟩
       have n1_ : J0 (Below w.heap.size w (((w7.setCell ⟨gb102, 0, none⟩ (.int .i64 ((rd_T71 l0 x9_1).f0))).setCell ⟨gb102, 1, none⟩ (.int .i64 ((rd_T71 l0 x9_1).f1))).setCell ⟨gb102, 2, none⟩ (.int .i64 ((rd_T71 l0 x9_1).f2)))) := ⟨be1_ HB.o GE102.o⟩
       (try clear BK102)
       (try clear HB)
       generalize (((w7.setCell ⟨gb102, 0, none⟩ (.int .i64 ((rd_T71 l0 x9_1).f0))).setCell ⟨gb102, 1, none⟩ (.int .i64 ((rd_T71 l0 x9_1).f1))).setCell ⟨gb102, 2, none⟩ (.int .i64 ((rd_T71 l0 x9_1).f2))) = w9 at n0_ n1_ ⊢
       have BK102 := n0_; have HB := n1_; clear n0_ n1_; replace BK102 := q_ (blk_drew BK102.o); replace HB := q_ (below_drew1 HB.o)
       refine start_ (n := 38) (S := fun w' => w'.cell? ⟨gb102, 0, none⟩ = some (.int .i64 ((rd_T71 l0 x9_1).f0)) ∧ w'.cell? ⟨gb102, 1, none⟩ = some (.int .i64 ((rd_T71 l0 x9_1).f1)) ∧ w'.cell? ⟨gb102, 2, none⟩ = some (.int .i64 ((rd_T71 l0 x9_1).f2))) (ds := []) (bb 38 0) (by kernel_rfl) rfl rfl ⟨(blk_cell BK102.o 0).trans rfl, (blk_cell BK102.o 1).trans rfl, (blk_cell BK102.o 2).trans rfl⟩ (fun hHeld => ?_); refine with_tabW impl_armsOk.tab4 impl_armsOk.bits4 (fun HT_ HW_ => ?_)
       generalize w9.drew = w10 at BK102 HB hHeld ⊢
       refine pv_ 0 14 1 HT_.o ?_; refine tv_ 1 15 3 HT_.o HW_.o hHeld ?_; refine pv_ 2 16 7 HT_.o ?_; refine pv_ 3 17 15 HT_.o ?_; refine pw_ 4 (some 18) (bb 38 31) HT_.o ?_; refine pw_ 5 (some 19) (bb 38 63) HT_.o ?_; refine pw_ 6 (some 20) (bb 38 127) HT_.o ?_; refine pw_ 7 (some 21) (bb 38 255) HT_.o ?_; refine pw_ 8 (some 22) (bb 38 511) HT_.o ?_; refine pv_ 9 23 1023 HT_.o ?_; refine pv_ 10 24 2047 HT_.o ?_; refine pw_ 11 (some 25) (bb 38 4095) HT_.o ?_; refine pw_ 12 (some 26) (bb 38 8191) HT_.o ?_; refine pw_ 13 (some 27) (bb 38 16383) HT_.o ?_; refine pv_ 14 28 32767 HT_.o ?_; refine pv_ 15 29 65535 HT_.o ?_; refine pw_ 16 (some 30) (bb 38 131071) HT_.o ?_; refine pw_ 17 (some 31) (bb 38 262143) HT_.o ?_; refine pw_ 18 (some 32) (bb 38 524287) HT_.o ?_; refine pw_ 19 (some 33) (bb 38 1048575) HT_.o ?_; refine pw_ 20 (some 34) (bb 38 2097151) HT_.o ?_; refine pw_ 21 (some 35) (bb 38 4194303) HT_.o ?_; refine pw_ 22 (some 36) (bb 38 8388607) HT_.o ?_; refine pw_ 23 (some 37) (bb 38 16777215) HT_.o ?_; refine pw_ 24 (some 38) (bb 38 33554431) HT_.o ?_; refine pw_ 25 (some 39) (bb 38 67108863) HT_.o ?_; refine pw_ 26 (some 40) (bb 38 134217727) HT_.o ?_; refine pw_ 27 (some 41) (bb 38 268435455) HT_.o ?_; refine pw_ 28 (some 42) (bb 38 536870911) HT_.o ?_; refine pv_ 29 43 1073741823 HT_.o ?_; refine pv_ 30 44 2147483647 HT_.o ?_; refine pw_ 31 (some 45) (bb 38 4294967295) HT_.o ?_; refine pw_ 32 (some 46) (bb 38 8589934591) HT_.o ?_; refine pw_ 33 (some 47) (bb 38 17179869183) HT_.o ?_; refine pw_ 34 (some 48) (bb 38 34359738367) HT_.o ?_; refine pw_ 35 (some 49) (bb 38 68719476735) HT_.o ?_; refine pw_ 36 (some 50) (bb 38 137438953471) HT_.o ?_; refine pv_ 37 51 274877906943 HT_.o ?_
       refine done_ (done_of HT_.o (by kernel_rfl)) ?_
       try go_wp2
       go_ret
       exact ⟨rt_, be1_ HB.o GE102.o⟩
      ·rw [if_neg c6] at H; have c6b0 := df_ c6; clear c6
       by_cases c11 : ((rd_T71 l0 x9_1).f0) > ((rd_T71 l0 x9_1).f1)
       ·rw [if_pos c11] at H
        have c11b0 : decide (((rd_T71 l0 x9_1).f1) < ((rd_T71 l0 x9_1).f0)) = true := dt_ c11
        clear c11; obtain rfl := Option.some.inj H
        have p101 : 0 ≤ (x9_1 : Int) := of_decide_eq_true as_
        have q101 : x9_1 < (l0.length : Int) := of_decide_eq_true as_
        obtain ⟨ad101, e101, hx101_0, hx101_1, hx101_2⟩ := at_T71 HR0.o x9_1 p101 q101
        cases e101
        replace hx101_0 := mv_ HB.o hx101_0; replace hx101_1 := mv_ HB.o hx101_1; replace hx101_2 := mv_ HB.o hx101_2; replace p101 := eq_true p101; replace q101 := eq_true q101
        try go_wp2_with (first | ((with_reducible refine gate_dst (N := 6) rfl ?_); refine bx_ 6 #[.int .i64 0, .int .i64 0, .int .i64 0] 71 ?_; intro gb102 hg w12 hbox hb; have BK102 := q_ (hbox); have GE102 := ge_ hg HB; replace HB := sb_ HB hb; clear hb hbox hg; obtain ⟨hcz13_0, hcz13_1, hcz13_2, hfz13_0, hfz13_1, hfz13_2⟩ := d3_ BK102))
        have n0_ : J0 ((((w12.setCell ⟨gb102, 0, none⟩ (.int .i64 ((rd_T71 l0 x9_1).f0))).setCell ⟨gb102, 1, none⟩ (.int .i64 ((rd_T71 l0 x9_1).f1))).setCell ⟨gb102, 2, none⟩ (.int .i64 ((rd_T71 l0 x9_1).f2))).heap[gb102]? = some (.cells #[.int .i64 ((rd_T71 l0 x9_1).f0), .int .i64 ((rd_T71 l0 x9_1).f1), .int .i64 ((rd_T71 l0 x9_1).f2)] 71 (0, 0))) := ⟨by (with_reducible repeat (first | refine blk_drewN ?_ _ | refine blk_drew ?_ | refine blk_alloc ?_ _)); refine blk_put (cs := #[.int .i64 ((rd_T71 l0 x9_1).f0), .int .i64 ((rd_T71 l0 x9_1).f1), .int .i64 0]) ?_ 2 _ rfl; (with_reducible repeat (first | refine blk_drewN ?_ _ | refine blk_drew ?_ | refine blk_alloc ?_ _)); refine blk_put (cs := #[.int .i64 ((rd_T71 l0 x9_1).f0), .int .i64 0, .int .i64 0]) ?_ 1 _ rfl; (with_reducible repeat (first | refine blk_drewN ?_ _ | refine blk_drew ?_ | refine blk_alloc ?_ _)); refine blk_put (cs := #[.int .i64 0, .int .i64 0, .int .i64 0]) ?_ 0 _ rfl; (with_reducible repeat (first | refine blk_drewN ?_ _ | refine blk_drew ?_ | refine blk_alloc ?_ _)); exact BK102.o⟩
        have n1_ : J0 (Below w.heap.size w (((w12.setCell ⟨gb102, 0, none⟩ (.int .i64 ((rd_T71 l0 x9_1).f0))).setCell ⟨gb102, 1, none⟩ (.int .i64 ((rd_T71 l0 x9_1).f1))).setCell ⟨gb102, 2, none⟩ (.int .i64 ((rd_T71 l0 x9_1).f2)))) := ⟨be1_ HB.o GE102.o⟩
        (try clear BK102)
        (try clear HB)
        generalize (((w12.setCell ⟨gb102, 0, none⟩ (.int .i64 ((rd_T71 l0 x9_1).f0))).setCell ⟨gb102, 1, none⟩ (.int .i64 ((rd_T71 l0 x9_1).f1))).setCell ⟨gb102, 2, none⟩ (.int .i64 ((rd_T71 l0 x9_1).f2))) = w14 at n0_ n1_ ⊢
        have BK102 := n0_; have HB := n1_; clear n0_ n1_; replace BK102 := q_ (blk_drew BK102.o); replace HB := q_ (below_drew1 HB.o)
        refine start_ (n := 38) (S := fun w' => w'.cell? ⟨gb102, 0, none⟩ = some (.int .i64 ((rd_T71 l0 x9_1).f0)) ∧ w'.cell? ⟨gb102, 1, none⟩ = some (.int .i64 ((rd_T71 l0 x9_1).f1)) ∧ w'.cell? ⟨gb102, 2, none⟩ = some (.int .i64 ((rd_T71 l0 x9_1).f2))) (ds := []) (bb 38 0) (by kernel_rfl) rfl rfl ⟨(blk_cell BK102.o 0).trans rfl, (blk_cell BK102.o 1).trans rfl, (blk_cell BK102.o 2).trans rfl⟩ (fun hHeld => ?_); refine with_tabW impl_armsOk.tab4 impl_armsOk.bits4 (fun HT_ HW_ => ?_)
        generalize w14.drew = w15 at BK102 HB hHeld ⊢
        refine pv_ 0 14 1 HT_.o ?_; refine tv_ 1 15 3 HT_.o HW_.o hHeld ?_; refine pv_ 2 16 7 HT_.o ?_; refine pv_ 3 17 15 HT_.o ?_; refine pv_ 4 18 31 HT_.o ?_; refine pv_ 6 20 95 HT_.o ?_; refine tv_ 5 19 127 HT_.o HW_.o hHeld ?_; refine tv_ 7 21 255 HT_.o HW_.o hHeld ?_; refine pv_ 8 22 511 HT_.o ?_; refine pv_ 9 23 1023 HT_.o ?_; refine pv_ 10 24 2047 HT_.o ?_; refine pw_ 11 (some 25) (bb 38 4095) HT_.o ?_; refine pw_ 12 (some 26) (bb 38 8191) HT_.o ?_; refine pw_ 13 (some 27) (bb 38 16383) HT_.o ?_; refine pv_ 14 28 32767 HT_.o ?_; refine pv_ 15 29 65535 HT_.o ?_; refine pw_ 16 (some 30) (bb 38 131071) HT_.o ?_; refine pw_ 17 (some 31) (bb 38 262143) HT_.o ?_; refine pw_ 18 (some 32) (bb 38 524287) HT_.o ?_; refine pw_ 19 (some 33) (bb 38 1048575) HT_.o ?_; refine pw_ 20 (some 34) (bb 38 2097151) HT_.o ?_; refine pw_ 21 (some 35) (bb 38 4194303) HT_.o ?_; refine pw_ 22 (some 36) (bb 38 8388607) HT_.o ?_; refine pw_ 23 (some 37) (bb 38 16777215) HT_.o ?_; refine pw_ 24 (some 38) (bb 38 33554431) HT_.o ?_; refine pw_ 25 (some 39) (bb 38 67108863) HT_.o ?_; refine pw_ 26 (some 40) (bb 38 134217727) HT_.o ?_; refine pw_ 27 (some 41) (bb 38 268435455) HT_.o ?_; refine pw_ 28 (some 42) (bb 38 536870911) HT_.o ?_; refine pv_ 29 43 1073741823 HT_.o ?_; refine pv_ 30 44 2147483647 HT_.o ?_; refine pw_ 31 (some 45) (bb 38 4294967295) HT_.o ?_; refine pw_ 32 (some 46) (bb 38 8589934591) HT_.o ?_; refine pw_ 33 (some 47) (bb 38 17179869183) HT_.o ?_; refine pw_ 34 (some 48) (bb 38 34359738367) HT_.o ?_; refine pw_ 35 (some 49) (bb 38 68719476735) HT_.o ?_; refine pw_ 36 (some 50) (bb 38 137438953471) HT_.o ?_; refine pv_ 37 51 274877906943 HT_.o ?_
        refine done_ (done_of HT_.o (by kernel_rfl)) ?_
        try go_wp2
        go_ret
        exact ⟨rt_, be1_ HB.o GE102.o⟩
       ·rw [if_neg c11] at H
        have c11b0 : decide (((rd_T71 l0 x9_1).f1) < ((rd_T71 l0 x9_1).f0)) = false := df_ c11
        clear c11
        by_cases c16 : ((rd_T71 l0 x9_1).f1) > 255
        ·rw [if_pos c16] at H
         have c16b0 : decide (255 < ((rd_T71 l0 x9_1).f1)) = true := dt_ c16
         clear c16; obtain rfl := Option.some.inj H
         have p101 : 0 ≤ (x9_1 : Int) := of_decide_eq_true as_
         have q101 : x9_1 < (l0.length : Int) := of_decide_eq_true as_
         obtain ⟨ad101, e101, hx101_0, hx101_1, hx101_2⟩ := at_T71 HR0.o x9_1 p101 q101
         cases e101
         replace hx101_0 := mv_ HB.o hx101_0; replace hx101_1 := mv_ HB.o hx101_1; replace hx101_2 := mv_ HB.o hx101_2; replace p101 := eq_true p101; replace q101 := eq_true q101
         try go_wp2_with (first | ((with_reducible refine gate_dst (N := 6) rfl ?_); refine bx_ 6 #[.int .i64 0, .int .i64 0, .int .i64 0] 71 ?_; intro gb102 hg w17 hbox hb; have BK102 := q_ (hbox); have GE102 := ge_ hg HB; replace HB := sb_ HB hb; clear hb hbox hg; obtain ⟨hcz18_0, hcz18_1, hcz18_2, hfz18_0, hfz18_1, hfz18_2⟩ := d3_ BK102))
         have n0_ : J0 ((((w17.setCell ⟨gb102, 0, none⟩ (.int .i64 ((rd_T71 l0 x9_1).f0))).setCell ⟨gb102, 1, none⟩ (.int .i64 ((rd_T71 l0 x9_1).f1))).setCell ⟨gb102, 2, none⟩ (.int .i64 ((rd_T71 l0 x9_1).f2))).heap[gb102]? = some (.cells #[.int .i64 ((rd_T71 l0 x9_1).f0), .int .i64 ((rd_T71 l0 x9_1).f1), .int .i64 ((rd_T71 l0 x9_1).f2)] 71 (0, 0))) := ⟨by (with_reducible repeat (first | refine blk_drewN ?_ _ | refine blk_drew ?_ | refine blk_alloc ?_ _)); refine blk_put (cs := #[.int .i64 ((rd_T71 l0 x9_1).f0), .int .i64 ((rd_T71 l0 x9_1).f1), .int .i64 0]) ?_ 2 _ rfl; (with_reducible repeat (first | refine blk_drewN ?_ _ | refine blk_drew ?_ | refine blk_alloc ?_ _)); refine blk_put (cs := #[.int .i64 ((rd_T71 l0 x9_1).f0), .int .i64 0, .int .i64 0]) ?_ 1 _ rfl; (with_reducible repeat (first | refine blk_drewN ?_ _ | refine blk_drew ?_ | refine blk_alloc ?_ _)); refine blk_put (cs := #[.int .i64 0, .int .i64 0, .int .i64 0]) ?_ 0 _ rfl; (with_reducible repeat (first | refine blk_drewN ?_ _ | refine blk_drew ?_ | refine blk_alloc ?_ _)); exact BK102.o⟩
         have n1_ : J0 (Below w.heap.size w (((w17.setCell ⟨gb102, 0, none⟩ (.int .i64 ((rd_T71 l0 x9_1).f0))).setCell ⟨gb102, 1, none⟩ (.int .i64 ((rd_T71 l0 x9_1).f1))).setCell ⟨gb102, 2, none⟩ (.int .i64 ((rd_T71 l0 x9_1).f2)))) := ⟨be1_ HB.o GE102.o⟩
         (try clear BK102)
         (try clear HB)
         generalize (((w17.setCell ⟨gb102, 0, none⟩ (.int .i64 ((rd_T71 l0 x9_1).f0))).setCell ⟨gb102, 1, none⟩ (.int .i64 ((rd_T71 l0 x9_1).f1))).setCell ⟨gb102, 2, none⟩ (.int .i64 ((rd_T71 l0 x9_1).f2))) = w19 at n0_ n1_ ⊢
         have BK102 := n0_; have HB := n1_; clear n0_ n1_; replace BK102 := q_ (blk_drew BK102.o); replace HB := q_ (below_drew1 HB.o)
         refine start_ (n := 38) (S := fun w' => w'.cell? ⟨gb102, 0, none⟩ = some (.int .i64 ((rd_T71 l0 x9_1).f0)) ∧ w'.cell? ⟨gb102, 1, none⟩ = some (.int .i64 ((rd_T71 l0 x9_1).f1)) ∧ w'.cell? ⟨gb102, 2, none⟩ = some (.int .i64 ((rd_T71 l0 x9_1).f2))) (ds := []) (bb 38 0) (by kernel_rfl) rfl rfl ⟨(blk_cell BK102.o 0).trans rfl, (blk_cell BK102.o 1).trans rfl, (blk_cell BK102.o 2).trans rfl⟩ (fun hHeld => ?_); refine with_tabW impl_armsOk.tab4 impl_armsOk.bits4 (fun HT_ HW_ => ?_)
         generalize w19.drew = w20 at BK102 HB hHeld ⊢
         refine pv_ 0 14 1 HT_.o ?_; refine tv_ 1 15 3 HT_.o HW_.o hHeld ?_; refine pv_ 2 16 7 HT_.o ?_; refine pv_ 3 17 15 HT_.o ?_; refine pv_ 4 18 31 HT_.o ?_; refine pv_ 6 20 95 HT_.o ?_; refine tv_ 5 19 127 HT_.o HW_.o hHeld ?_; refine tv_ 7 21 255 HT_.o HW_.o hHeld ?_; refine pv_ 8 22 511 HT_.o ?_; refine pv_ 9 23 1023 HT_.o ?_; refine pv_ 10 24 2047 HT_.o ?_; refine pv_ 11 25 4095 HT_.o ?_; refine tv_ 12 26 8191 HT_.o HW_.o hHeld ?_; refine pv_ 13 27 16383 HT_.o ?_; refine pv_ 14 28 32767 HT_.o ?_; refine pv_ 15 29 65535 HT_.o ?_; refine pw_ 16 (some 30) (bb 38 131071) HT_.o ?_; refine pw_ 17 (some 31) (bb 38 262143) HT_.o ?_; refine pw_ 18 (some 32) (bb 38 524287) HT_.o ?_; refine pw_ 19 (some 33) (bb 38 1048575) HT_.o ?_; refine pw_ 20 (some 34) (bb 38 2097151) HT_.o ?_; refine pw_ 21 (some 35) (bb 38 4194303) HT_.o ?_; refine pw_ 22 (some 36) (bb 38 8388607) HT_.o ?_; refine pw_ 23 (some 37) (bb 38 16777215) HT_.o ?_; refine pw_ 24 (some 38) (bb 38 33554431) HT_.o ?_; refine pw_ 25 (some 39) (bb 38 67108863) HT_.o ?_; refine pw_ 26 (some 40) (bb 38 134217727) HT_.o ?_; refine pw_ 27 (some 41) (bb 38 268435455) HT_.o ?_; refine pw_ 28 (some 42) (bb 38 536870911) HT_.o ?_; refine pv_ 29 43 1073741823 HT_.o ?_; refine pv_ 30 44 2147483647 HT_.o ?_; refine pw_ 31 (some 45) (bb 38 4294967295) HT_.o ?_; refine pw_ 32 (some 46) (bb 38 8589934591) HT_.o ?_; refine pw_ 33 (some 47) (bb 38 17179869183) HT_.o ?_; refine pw_ 34 (some 48) (bb 38 34359738367) HT_.o ?_; refine pw_ 35 (some 49) (bb 38 68719476735) HT_.o ?_; refine pw_ 36 (some 50) (bb 38 137438953471) HT_.o ?_; refine pv_ 37 51 274877906943 HT_.o ?_
         refine done_ (done_of HT_.o (by kernel_rfl)) ?_
         try go_wp2
         go_ret
         exact ⟨rt_, be1_ HB.o GE102.o⟩
        ·rw [if_neg c16] at H
         have c16b0 : decide (255 < ((rd_T71 l0 x9_1).f1)) = false := df_ c16
         clear c16
         by_cases c21 : x9_1 > 0
         ·rw [if_pos c21] at H
          have c21b0 : decide (0 < x9_1) = true := dt_ c21
          clear c21
          obtain ⟨ji22, hji22⟩ : ∃ j_ : Int, (wrap64 (x9_1 - 1)) = j_ := ⟨_, rfl⟩
          replace H : (if 0 ≤ (ji22) then (if (ji22) < (l0.length : Int) then (if ((rd_T71 l0 x9_1).f0) ≤ ((rd_T71 l0 (ji22)).f1) then (some false) else ((impl_within.f ((rd_T71 l0 x9_1).f2) 0 (wrap64 (a1 - 1))).bind fun t104 => (if t104 = true then (impl_armsOk.l0 k1 l0 a1 l0 (l0.length : Int) (wrap64 (x9_1 + 1))) else (some false)))) else (none)) else (none)) = some r := by first | (rw [hji22] at H; exact H) | (simp only [hji22] at H ⊢; exact H)
          have hji22w : (IntKind.i64.wrap (x9_1 - 1)) = ji22 := (i64_w _).trans hji22
          by_cases c23 : 0 ≤ (ji22)
          ·rw [if_pos c23] at H; have c23b0 := dt_ c23; clear c23
           by_cases c24 : (ji22) < (l0.length : Int)
           ·rw [if_pos c24] at H; have c24b0 := dt_ c24; clear c24
            by_cases c25 : ((rd_T71 l0 x9_1).f0) ≤ ((rd_T71 l0 (ji22)).f1)
            ·rw [if_pos c25] at H; have c25b0 := dt_ c25; clear c25; obtain rfl := Option.some.inj H
             have p101 : 0 ≤ (x9_1 : Int) := of_decide_eq_true as_
             have q101 : x9_1 < (l0.length : Int) := of_decide_eq_true as_
             obtain ⟨ad101, e101, hx101_0, hx101_1, hx101_2⟩ := at_T71 HR0.o x9_1 p101 q101
             cases e101
             replace hx101_0 := mv_ HB.o hx101_0; replace hx101_1 := mv_ HB.o hx101_1; replace hx101_2 := mv_ HB.o hx101_2; replace p101 := eq_true p101; replace q101 := eq_true q101
             try go_wp2_with (first | ((with_reducible refine gate_dst (N := 6) rfl ?_); refine bx_ 6 #[.int .i64 0, .int .i64 0, .int .i64 0] 71 ?_; intro gb102 hg w26 hbox hb; have BK102 := q_ (hbox); have GE102 := ge_ hg HB; replace HB := sb_ HB hb; clear hb hbox hg; obtain ⟨hcz27_0, hcz27_1, hcz27_2, hfz27_0, hfz27_1, hfz27_2⟩ := d3_ BK102))
             have n0_ : J0 ((((w26.setCell ⟨gb102, 0, none⟩ (.int .i64 ((rd_T71 l0 x9_1).f0))).setCell ⟨gb102, 1, none⟩ (.int .i64 ((rd_T71 l0 x9_1).f1))).setCell ⟨gb102, 2, none⟩ (.int .i64 ((rd_T71 l0 x9_1).f2))).heap[gb102]? = some (.cells #[.int .i64 ((rd_T71 l0 x9_1).f0), .int .i64 ((rd_T71 l0 x9_1).f1), .int .i64 ((rd_T71 l0 x9_1).f2)] 71 (0, 0))) := ⟨by (with_reducible repeat (first | refine blk_drewN ?_ _ | refine blk_drew ?_ | refine blk_alloc ?_ _)); refine blk_put (cs := #[.int .i64 ((rd_T71 l0 x9_1).f0), .int .i64 ((rd_T71 l0 x9_1).f1), .int .i64 0]) ?_ 2 _ rfl; (with_reducible repeat (first | refine blk_drewN ?_ _ | refine blk_drew ?_ | refine blk_alloc ?_ _)); refine blk_put (cs := #[.int .i64 ((rd_T71 l0 x9_1).f0), .int .i64 0, .int .i64 0]) ?_ 1 _ rfl; (with_reducible repeat (first | refine blk_drewN ?_ _ | refine blk_drew ?_ | refine blk_alloc ?_ _)); refine blk_put (cs := #[.int .i64 0, .int .i64 0, .int .i64 0]) ?_ 0 _ rfl; (with_reducible repeat (first | refine blk_drewN ?_ _ | refine blk_drew ?_ | refine blk_alloc ?_ _)); exact BK102.o⟩
             have n1_ : J0 (Below w.heap.size w (((w26.setCell ⟨gb102, 0, none⟩ (.int .i64 ((rd_T71 l0 x9_1).f0))).setCell ⟨gb102, 1, none⟩ (.int .i64 ((rd_T71 l0 x9_1).f1))).setCell ⟨gb102, 2, none⟩ (.int .i64 ((rd_T71 l0 x9_1).f2)))) := ⟨be1_ HB.o GE102.o⟩
             (try clear BK102)
             (try clear HB)
             generalize (((w26.setCell ⟨gb102, 0, none⟩ (.int .i64 ((rd_T71 l0 x9_1).f0))).setCell ⟨gb102, 1, none⟩ (.int .i64 ((rd_T71 l0 x9_1).f1))).setCell ⟨gb102, 2, none⟩ (.int .i64 ((rd_T71 l0 x9_1).f2))) = w28 at n0_ n1_ ⊢
             have BK102 := n0_; have HB := n1_; clear n0_ n1_; replace BK102 := q_ (blk_drew BK102.o); replace HB := q_ (below_drew1 HB.o)
             have p103 : 0 ≤ ((ji22) : Int) := of_decide_eq_true as_
             have q103 : (ji22) < (l0.length : Int) := of_decide_eq_true as_
             obtain ⟨ad103, e103, hx103_0, hx103_1, hx103_2⟩ := at_T71 HR0.o (ji22) p103 q103; have hw103_2 := hx103_2; have hw103_1 := hx103_1; have hw103_0 := hx103_0
             obtain rfl : ad101 = ad103 := (by injection e103)
             replace hx103_0 := mv_ HB.o hx103_0; replace hx103_1 := mv_ HB.o hx103_1; replace hx103_2 := mv_ HB.o hx103_2; replace p103 := eq_true p103; replace q103 := eq_true q103
             refine start_ (n := 38) (S := fun w' => w'.cell? ⟨gb102, 0, none⟩ = some (.int .i64 ((rd_T71 l0 x9_1).f0)) ∧ w'.cell? ⟨gb102, 1, none⟩ = some (.int .i64 ((rd_T71 l0 x9_1).f1)) ∧ w'.cell? ⟨gb102, 2, none⟩ = some (.int .i64 ((rd_T71 l0 x9_1).f2)) ∧ w'.cell? (ad101.add (((ji22)).toNat * 3)) = some (.int .i64 ((rd_T71 l0 (ji22)).f0)) ∧ w'.cell? ⟨(ad101.add (((ji22)).toNat * 3)).block, (ad101.add (((ji22)).toNat * 3)).off + 1, none⟩ = some (.int .i64 ((rd_T71 l0 (ji22)).f1)) ∧ w'.cell? ⟨(ad101.add (((ji22)).toNat * 3)).block, (ad101.add (((ji22)).toNat * 3)).off + 2, none⟩ = some (.int .i64 ((rd_T71 l0 (ji22)).f2))) (ds := []) (bb 38 0) (by kernel_rfl) rfl rfl ⟨(blk_cell BK102.o 0).trans rfl, (blk_cell BK102.o 1).trans rfl, (blk_cell BK102.o 2).trans rfl, (mv_ HB.o hw103_0), (mv_ HB.o hw103_1), (mv_ HB.o hw103_2)⟩ (fun hHeld => ?_); refine with_tabW impl_armsOk.tab4 impl_armsOk.bits4 (fun HT_ HW_ => ?_)
             generalize w28.drew = w29 at BK102 HB hx103_0 hx103_1 hx103_2 hHeld ⊢
             refine pv_ 0 14 1 HT_.o ?_; refine tv_ 1 15 3 HT_.o HW_.o hHeld ?_; refine pv_ 2 16 7 HT_.o ?_; refine pv_ 3 17 15 HT_.o ?_; refine pv_ 4 18 31 HT_.o ?_; refine pv_ 6 20 95 HT_.o ?_; refine tv_ 5 19 127 HT_.o HW_.o hHeld ?_; refine tv_ 7 21 255 HT_.o HW_.o hHeld ?_; refine pv_ 8 22 511 HT_.o ?_; refine pv_ 9 23 1023 HT_.o ?_; refine pv_ 10 24 2047 HT_.o ?_; refine pv_ 11 25 4095 HT_.o ?_; refine tv_ 12 26 8191 HT_.o HW_.o hHeld ?_; refine pv_ 13 27 16383 HT_.o ?_; refine pv_ 14 28 32767 HT_.o ?_; refine pv_ 15 29 65535 HT_.o ?_; refine pv_ 16 30 131071 HT_.o ?_; refine pv_ 17 31 262143 HT_.o ?_; refine pv_ 18 32 524287 HT_.o ?_; refine pv_ 19 33 1048575 HT_.o ?_; refine pv_ 21 35 3145727 HT_.o ?_; refine pv_ 22 36 7340031 HT_.o ?_; refine pv_ 23 37 15728639 HT_.o ?_; refine pv_ 24 38 32505855 HT_.o ?_; refine pv_ 25 39 66060287 HT_.o ?_; refine tv_ 20 34 67108863 HT_.o HW_.o hHeld ?_; refine tv_ 26 40 134217727 HT_.o HW_.o hHeld ?_; refine pv_ 27 41 268435455 HT_.o ?_; refine pv_ 28 42 536870911 HT_.o ?_; refine pv_ 29 43 1073741823 HT_.o ?_; refine pv_ 30 44 2147483647 HT_.o ?_; refine pw_ 31 (some 45) (bb 38 4294967295) HT_.o ?_; refine pw_ 32 (some 46) (bb 38 8589934591) HT_.o ?_; refine pw_ 33 (some 47) (bb 38 17179869183) HT_.o ?_; refine pw_ 34 (some 48) (bb 38 34359738367) HT_.o ?_; refine pw_ 35 (some 49) (bb 38 68719476735) HT_.o ?_; refine pw_ 36 (some 50) (bb 38 137438953471) HT_.o ?_; refine pv_ 37 51 274877906943 HT_.o ?_
             refine done_ (done_of HT_.o (by kernel_rfl)) ?_
             try go_wp2
             go_ret
             exact ⟨by first | rfl | (simp [errW_none, errW_some] <;> rfl) | (simp only [← hji22]; first | rfl | (simp [errW_none, errW_some] <;> rfl)) | (simp [*, errW_none, errW_some] <;> rfl), be1_ HB.o GE102.o⟩
            ·rw [if_neg c25] at H; have c25b0 := df_ c25; clear c25; obtain ⟨t104, A30, H⟩ := ob_ H
             by_cases c31 : t104 = true
             ·subst c31; rw [if_pos rfl] at H
              have H' := q_ H
              clear H
              have p101 : 0 ≤ (x9_1 : Int) := of_decide_eq_true as_
              have q101 : x9_1 < (l0.length : Int) := of_decide_eq_true as_
              obtain ⟨ad101, e101, hx101_0, hx101_1, hx101_2⟩ := at_T71 HR0.o x9_1 p101 q101
              cases e101
              replace hx101_0 := mv_ HB.o hx101_0; replace hx101_1 := mv_ HB.o hx101_1; replace hx101_2 := mv_ HB.o hx101_2; replace p101 := eq_true p101; replace q101 := eq_true q101
              try go_wp2_with (first | ((with_reducible refine gate_dst (N := 6) rfl ?_); refine bx_ 6 #[.int .i64 0, .int .i64 0, .int .i64 0] 71 ?_; intro gb102 hg w32 hbox hb; have BK102 := q_ (hbox); have GE102 := ge_ hg HB; replace HB := sb_ HB hb; clear hb hbox hg; obtain ⟨hcz33_0, hcz33_1, hcz33_2, hfz33_0, hfz33_1, hfz33_2⟩ := d3_ BK102))
              have n0_ : J0 ((((w32.setCell ⟨gb102, 0, none⟩ (.int .i64 ((rd_T71 l0 x9_1).f0))).setCell ⟨gb102, 1, none⟩ (.int .i64 ((rd_T71 l0 x9_1).f1))).setCell ⟨gb102, 2, none⟩ (.int .i64 ((rd_T71 l0 x9_1).f2))).heap[gb102]? = some (.cells #[.int .i64 ((rd_T71 l0 x9_1).f0), .int .i64 ((rd_T71 l0 x9_1).f1), .int .i64 ((rd_T71 l0 x9_1).f2)] 71 (0, 0))) := ⟨by (with_reducible repeat (first | refine blk_drewN ?_ _ | refine blk_drew ?_ | refine blk_alloc ?_ _)); refine blk_put (cs := #[.int .i64 ((rd_T71 l0 x9_1).f0), .int .i64 ((rd_T71 l0 x9_1).f1), .int .i64 0]) ?_ 2 _ rfl; (with_reducible repeat (first | refine blk_drewN ?_ _ | refine blk_drew ?_ | refine blk_alloc ?_ _)); refine blk_put (cs := #[.int .i64 ((rd_T71 l0 x9_1).f0), .int .i64 0, .int .i64 0]) ?_ 1 _ rfl; (with_reducible repeat (first | refine blk_drewN ?_ _ | refine blk_drew ?_ | refine blk_alloc ?_ _)); refine blk_put (cs := #[.int .i64 0, .int .i64 0, .int .i64 0]) ?_ 0 _ rfl; (with_reducible repeat (first | refine blk_drewN ?_ _ | refine blk_drew ?_ | refine blk_alloc ?_ _)); exact BK102.o⟩
              have n1_ : J0 (Below w.heap.size w (((w32.setCell ⟨gb102, 0, none⟩ (.int .i64 ((rd_T71 l0 x9_1).f0))).setCell ⟨gb102, 1, none⟩ (.int .i64 ((rd_T71 l0 x9_1).f1))).setCell ⟨gb102, 2, none⟩ (.int .i64 ((rd_T71 l0 x9_1).f2)))) := ⟨be1_ HB.o GE102.o⟩
              (try clear BK102)
              (try clear HB)
              generalize (((w32.setCell ⟨gb102, 0, none⟩ (.int .i64 ((rd_T71 l0 x9_1).f0))).setCell ⟨gb102, 1, none⟩ (.int .i64 ((rd_T71 l0 x9_1).f1))).setCell ⟨gb102, 2, none⟩ (.int .i64 ((rd_T71 l0 x9_1).f2))) = w34 at n0_ n1_ ⊢
              have BK102 := n0_; have HB := n1_; clear n0_ n1_; replace BK102 := q_ (blk_drew BK102.o); replace HB := q_ (below_drew1 HB.o)
              have p103 : 0 ≤ ((ji22) : Int) := of_decide_eq_true as_
              have q103 : (ji22) < (l0.length : Int) := of_decide_eq_true as_
              obtain ⟨ad103, e103, hx103_0, hx103_1, hx103_2⟩ := at_T71 HR0.o (ji22) p103 q103; have hw103_2 := hx103_2; have hw103_1 := hx103_1; have hw103_0 := hx103_0
              obtain rfl : ad101 = ad103 := (by injection e103)
              replace hx103_0 := mv_ HB.o hx103_0; replace hx103_1 := mv_ HB.o hx103_1; replace hx103_2 := mv_ HB.o hx103_2; replace p103 := eq_true p103; replace q103 := eq_true q103
              refine start_ (n := 38) (S := fun w' => w'.cell? ⟨gb102, 0, none⟩ = some (.int .i64 ((rd_T71 l0 x9_1).f0)) ∧ w'.cell? ⟨gb102, 1, none⟩ = some (.int .i64 ((rd_T71 l0 x9_1).f1)) ∧ w'.cell? ⟨gb102, 2, none⟩ = some (.int .i64 ((rd_T71 l0 x9_1).f2)) ∧ w'.cell? (ad101.add (((ji22)).toNat * 3)) = some (.int .i64 ((rd_T71 l0 (ji22)).f0)) ∧ w'.cell? ⟨(ad101.add (((ji22)).toNat * 3)).block, (ad101.add (((ji22)).toNat * 3)).off + 1, none⟩ = some (.int .i64 ((rd_T71 l0 (ji22)).f1)) ∧ w'.cell? ⟨(ad101.add (((ji22)).toNat * 3)).block, (ad101.add (((ji22)).toNat * 3)).off + 2, none⟩ = some (.int .i64 ((rd_T71 l0 (ji22)).f2))) (ds := []) (bb 38 0) (by kernel_rfl) rfl rfl ⟨(blk_cell BK102.o 0).trans rfl, (blk_cell BK102.o 1).trans rfl, (blk_cell BK102.o 2).trans rfl, (mv_ HB.o hw103_0), (mv_ HB.o hw103_1), (mv_ HB.o hw103_2)⟩ (fun hHeld => ?_); refine with_tabW impl_armsOk.tab4 impl_armsOk.bits4 (fun HT_ HW_ => ?_)
              generalize w34.drew = w35 at BK102 HB hx103_0 hx103_1 hx103_2 hHeld ⊢
              refine pv_ 0 14 1 HT_.o ?_; refine tv_ 1 15 3 HT_.o HW_.o hHeld ?_; refine pv_ 2 16 7 HT_.o ?_; refine pv_ 3 17 15 HT_.o ?_; refine pv_ 4 18 31 HT_.o ?_; refine pv_ 6 20 95 HT_.o ?_; refine tv_ 5 19 127 HT_.o HW_.o hHeld ?_; refine tv_ 7 21 255 HT_.o HW_.o hHeld ?_; refine pv_ 8 22 511 HT_.o ?_; refine pv_ 9 23 1023 HT_.o ?_; refine pv_ 10 24 2047 HT_.o ?_; refine pv_ 11 25 4095 HT_.o ?_; refine tv_ 12 26 8191 HT_.o HW_.o hHeld ?_; refine pv_ 13 27 16383 HT_.o ?_; refine pv_ 14 28 32767 HT_.o ?_; refine pv_ 15 29 65535 HT_.o ?_; refine pv_ 16 30 131071 HT_.o ?_; refine pv_ 17 31 262143 HT_.o ?_; refine pv_ 18 32 524287 HT_.o ?_; refine pv_ 19 33 1048575 HT_.o ?_; refine pv_ 21 35 3145727 HT_.o ?_; refine pv_ 22 36 7340031 HT_.o ?_; refine pv_ 23 37 15728639 HT_.o ?_; refine pv_ 24 38 32505855 HT_.o ?_; refine pv_ 25 39 66060287 HT_.o ?_; refine tv_ 20 34 67108863 HT_.o HW_.o hHeld ?_; refine tv_ 26 40 134217727 HT_.o HW_.o hHeld ?_; refine pv_ 27 41 268435455 HT_.o ?_; refine pv_ 28 42 536870911 HT_.o ?_; refine pv_ 29 43 1073741823 HT_.o ?_; refine pv_ 30 44 2147483647 HT_.o ?_; refine pv_ 31 45 4294967295 HT_.o ?_; refine pv_ 33 47 12884901887 HT_.o ?_; refine pv_ 34 48 30064771071 HT_.o ?_; refine tv_ 32 46 34359738367 HT_.o HW_.o hHeld ?_
              refine one_ (i := 35) (N := some 49) (bb 38 68719476735) rfl rfl (one_of HT_.o (by kernel_rfl)) (by decide) (fun K hK => ?_)
              refine gs_ Tryd.func57 #[.int .i64 ((rd_T71 l0 x9_1).f2), .int .i64 0, .int .i64 (wrap64 (a1 - 1))] ?_
              with_reducible refine (impl_within.calls ((rd_T71 l0 x9_1).f2) 0 (wrap64 (a1 - 1)) true _ A30.o).mono ?_
              rintro e w' ⟨rfl, ⟨nd, rfl⟩⟩; refine ⟨_, rfl, ?_⟩
              refine hK.out _ _ ⟨(blk_cell BK102.o 0).trans rfl, (blk_cell BK102.o 1).trans rfl, (blk_cell BK102.o 2).trans rfl, (mv_ HB.o hw103_0), (mv_ HB.o hw103_1), (mv_ HB.o hw103_2)⟩ (fun hHeld => ?_)
              clear hK K; refine no_ (some 49) ?_; refine pv_ 36 50 137438953471 HT_.o ?_; refine pv_ 37 51 274877906943 HT_.o ?_
              refine done_ (done_of HT_.o (by kernel_rfl)) ?_
              try go_wp2
              go_roundg k1
              case measure => have := HK1.o; omega
              case rel => exact ⟨(wrap64 (x9_1 + 1)), rs_, H', ⟨by have := HK1.o; omega⟩, ⟨be1_ HB.o GE102.o⟩⟩
             ·replace c31 := Bool.eq_false_iff.mpr c31; subst c31; rw [if_neg nft_] at H; obtain rfl := Option.some.inj H
              have p101 : 0 ≤ (x9_1 : Int) := of_decide_eq_true as_
              have q101 : x9_1 < (l0.length : Int) := of_decide_eq_true as_
              obtain ⟨ad101, e101, hx101_0, hx101_1, hx101_2⟩ := at_T71 HR0.o x9_1 p101 q101
              cases e101
              replace hx101_0 := mv_ HB.o hx101_0; replace hx101_1 := mv_ HB.o hx101_1; replace hx101_2 := mv_ HB.o hx101_2; replace p101 := eq_true p101; replace q101 := eq_true q101
              try go_wp2_with (first | ((with_reducible refine gate_dst (N := 6) rfl ?_); refine bx_ 6 #[.int .i64 0, .int .i64 0, .int .i64 0] 71 ?_; intro gb102 hg w36 hbox hb; have BK102 := q_ (hbox); have GE102 := ge_ hg HB; replace HB := sb_ HB hb; clear hb hbox hg; obtain ⟨hcz37_0, hcz37_1, hcz37_2, hfz37_0, hfz37_1, hfz37_2⟩ := d3_ BK102))
              have n0_ : J0 ((((w36.setCell ⟨gb102, 0, none⟩ (.int .i64 ((rd_T71 l0 x9_1).f0))).setCell ⟨gb102, 1, none⟩ (.int .i64 ((rd_T71 l0 x9_1).f1))).setCell ⟨gb102, 2, none⟩ (.int .i64 ((rd_T71 l0 x9_1).f2))).heap[gb102]? = some (.cells #[.int .i64 ((rd_T71 l0 x9_1).f0), .int .i64 ((rd_T71 l0 x9_1).f1), .int .i64 ((rd_T71 l0 x9_1).f2)] 71 (0, 0))) := ⟨by (with_reducible repeat (first | refine blk_drewN ?_ _ | refine blk_drew ?_ | refine blk_alloc ?_ _)); refine blk_put (cs := #[.int .i64 ((rd_T71 l0 x9_1).f0), .int .i64 ((rd_T71 l0 x9_1).f1), .int .i64 0]) ?_ 2 _ rfl; (with_reducible repeat (first | refine blk_drewN ?_ _ | refine blk_drew ?_ | refine blk_alloc ?_ _)); refine blk_put (cs := #[.int .i64 ((rd_T71 l0 x9_1).f0), .int .i64 0, .int .i64 0]) ?_ 1 _ rfl; (with_reducible repeat (first | refine blk_drewN ?_ _ | refine blk_drew ?_ | refine blk_alloc ?_ _)); refine blk_put (cs := #[.int .i64 0, .int .i64 0, .int .i64 0]) ?_ 0 _ rfl; (with_reducible repeat (first | refine blk_drewN ?_ _ | refine blk_drew ?_ | refine blk_alloc ?_ _)); exact BK102.o⟩
              have n1_ : J0 (Below w.heap.size w (((w36.setCell ⟨gb102, 0, none⟩ (.int .i64 ((rd_T71 l0 x9_1).f0))).setCell ⟨gb102, 1, none⟩ (.int .i64 ((rd_T71 l0 x9_1).f1))).setCell ⟨gb102, 2, none⟩ (.int .i64 ((rd_T71 l0 x9_1).f2)))) := ⟨be1_ HB.o GE102.o⟩
              (try clear BK102)
              (try clear HB)
              generalize (((w36.setCell ⟨gb102, 0, none⟩ (.int .i64 ((rd_T71 l0 x9_1).f0))).setCell ⟨gb102, 1, none⟩ (.int .i64 ((rd_T71 l0 x9_1).f1))).setCell ⟨gb102, 2, none⟩ (.int .i64 ((rd_T71 l0 x9_1).f2))) = w38 at n0_ n1_ ⊢
              have BK102 := n0_; have HB := n1_; clear n0_ n1_; replace BK102 := q_ (blk_drew BK102.o); replace HB := q_ (below_drew1 HB.o)
              have p103 : 0 ≤ ((ji22) : Int) := of_decide_eq_true as_
              have q103 : (ji22) < (l0.length : Int) := of_decide_eq_true as_
              obtain ⟨ad103, e103, hx103_0, hx103_1, hx103_2⟩ := at_T71 HR0.o (ji22) p103 q103; have hw103_2 := hx103_2; have hw103_1 := hx103_1; have hw103_0 := hx103_0
              obtain rfl : ad101 = ad103 := (by injection e103)
              replace hx103_0 := mv_ HB.o hx103_0; replace hx103_1 := mv_ HB.o hx103_1; replace hx103_2 := mv_ HB.o hx103_2; replace p103 := eq_true p103; replace q103 := eq_true q103
              refine start_ (n := 38) (S := fun w' => w'.cell? ⟨gb102, 0, none⟩ = some (.int .i64 ((rd_T71 l0 x9_1).f0)) ∧ w'.cell? ⟨gb102, 1, none⟩ = some (.int .i64 ((rd_T71 l0 x9_1).f1)) ∧ w'.cell? ⟨gb102, 2, none⟩ = some (.int .i64 ((rd_T71 l0 x9_1).f2)) ∧ w'.cell? (ad101.add (((ji22)).toNat * 3)) = some (.int .i64 ((rd_T71 l0 (ji22)).f0)) ∧ w'.cell? ⟨(ad101.add (((ji22)).toNat * 3)).block, (ad101.add (((ji22)).toNat * 3)).off + 1, none⟩ = some (.int .i64 ((rd_T71 l0 (ji22)).f1)) ∧ w'.cell? ⟨(ad101.add (((ji22)).toNat * 3)).block, (ad101.add (((ji22)).toNat * 3)).off + 2, none⟩ = some (.int .i64 ((rd_T71 l0 (ji22)).f2))) (ds := []) (bb 38 0) (by kernel_rfl) rfl rfl ⟨(blk_cell BK102.o 0).trans rfl, (blk_cell BK102.o 1).trans rfl, (blk_cell BK102.o 2).trans rfl, (mv_ HB.o hw103_0), (mv_ HB.o hw103_1), (mv_ HB.o hw103_2)⟩ (fun hHeld => ?_); refine with_tabW impl_armsOk.tab4 impl_armsOk.bits4 (fun HT_ HW_ => ?_)
              generalize w38.drew = w39 at BK102 HB hx103_0 hx103_1 hx103_2 hHeld ⊢
              refine pv_ 0 14 1 HT_.o ?_; refine tv_ 1 15 3 HT_.o HW_.o hHeld ?_; refine pv_ 2 16 7 HT_.o ?_; refine pv_ 3 17 15 HT_.o ?_; refine pv_ 4 18 31 HT_.o ?_; refine pv_ 6 20 95 HT_.o ?_; refine tv_ 5 19 127 HT_.o HW_.o hHeld ?_; refine tv_ 7 21 255 HT_.o HW_.o hHeld ?_; refine pv_ 8 22 511 HT_.o ?_; refine pv_ 9 23 1023 HT_.o ?_; refine pv_ 10 24 2047 HT_.o ?_; refine pv_ 11 25 4095 HT_.o ?_; refine tv_ 12 26 8191 HT_.o HW_.o hHeld ?_; refine pv_ 13 27 16383 HT_.o ?_; refine pv_ 14 28 32767 HT_.o ?_; refine pv_ 15 29 65535 HT_.o ?_; refine pv_ 16 30 131071 HT_.o ?_; refine pv_ 17 31 262143 HT_.o ?_; refine pv_ 18 32 524287 HT_.o ?_; refine pv_ 19 33 1048575 HT_.o ?_; refine pv_ 21 35 3145727 HT_.o ?_; refine pv_ 22 36 7340031 HT_.o ?_; refine pv_ 23 37 15728639 HT_.o ?_; refine pv_ 24 38 32505855 HT_.o ?_; refine pv_ 25 39 66060287 HT_.o ?_; refine tv_ 20 34 67108863 HT_.o HW_.o hHeld ?_; refine tv_ 26 40 134217727 HT_.o HW_.o hHeld ?_; refine pv_ 27 41 268435455 HT_.o ?_; refine pv_ 28 42 536870911 HT_.o ?_; refine pv_ 29 43 1073741823 HT_.o ?_; refine pv_ 30 44 2147483647 HT_.o ?_; refine pv_ 31 45 4294967295 HT_.o ?_; refine pv_ 33 47 12884901887 HT_.o ?_; refine pv_ 34 48 30064771071 HT_.o ?_; refine tv_ 32 46 34359738367 HT_.o HW_.o hHeld ?_
              refine one_ (i := 35) (N := some 49) (bb 38 68719476735) rfl rfl (one_of HT_.o (by kernel_rfl)) (by decide) (fun K hK => ?_)
              refine gs_ Tryd.func57 #[.int .i64 ((rd_T71 l0 x9_1).f2), .int .i64 0, .int .i64 (wrap64 (a1 - 1))] ?_
              with_reducible refine (impl_within.calls ((rd_T71 l0 x9_1).f2) 0 (wrap64 (a1 - 1)) false _ A30.o).mono ?_
              rintro e w' ⟨rfl, ⟨nd, rfl⟩⟩; refine ⟨_, rfl, ?_⟩
              refine hK.out _ _ ⟨(blk_cell BK102.o 0).trans rfl, (blk_cell BK102.o 1).trans rfl, (blk_cell BK102.o 2).trans rfl, (mv_ HB.o hw103_0), (mv_ HB.o hw103_1), (mv_ HB.o hw103_2)⟩ (fun hHeld => ?_)
              clear hK K; refine no_ (some 49) ?_; refine pv_ 36 50 137438953471 HT_.o ?_; refine pv_ 37 51 274877906943 HT_.o ?_
              refine done_ (done_of HT_.o (by kernel_rfl)) ?_
              try go_wp2
              go_ret
              exact ⟨by first | rfl | (simp [errW_none, errW_some] <;> rfl) | (simp only [← hji22]; first | rfl | (simp [errW_none, errW_some] <;> rfl)) | (simp [*, errW_none, errW_some] <;> rfl), be1_ HB.o GE102.o⟩
           ·rw [if_neg c24] at H
            exact absurd H (by simp)
          ·rw [if_neg c23] at H
           exact absurd H (by simp)
         ·rw [if_neg c21] at H
          have c21b0 : decide (0 < x9_1) = false := df_ c21
          clear c21; obtain ⟨t105, A40, H⟩ := ob_ H
          by_cases c41 : t105 = true
          ·subst c41; rw [if_pos rfl] at H
           have H' := q_ H
           clear H
           have p101 : 0 ≤ (x9_1 : Int) := of_decide_eq_true as_
           have q101 : x9_1 < (l0.length : Int) := of_decide_eq_true as_
           obtain ⟨ad101, e101, hx101_0, hx101_1, hx101_2⟩ := at_T71 HR0.o x9_1 p101 q101
           cases e101
           replace hx101_0 := mv_ HB.o hx101_0; replace hx101_1 := mv_ HB.o hx101_1; replace hx101_2 := mv_ HB.o hx101_2; replace p101 := eq_true p101; replace q101 := eq_true q101
           try go_wp2_with (first | ((with_reducible refine gate_dst (N := 6) rfl ?_); refine bx_ 6 #[.int .i64 0, .int .i64 0, .int .i64 0] 71 ?_; intro gb102 hg w42 hbox hb; have BK102 := q_ (hbox); have GE102 := ge_ hg HB; replace HB := sb_ HB hb; clear hb hbox hg; obtain ⟨hcz43_0, hcz43_1, hcz43_2, hfz43_0, hfz43_1, hfz43_2⟩ := d3_ BK102))
           have n0_ : J0 ((((w42.setCell ⟨gb102, 0, none⟩ (.int .i64 ((rd_T71 l0 x9_1).f0))).setCell ⟨gb102, 1, none⟩ (.int .i64 ((rd_T71 l0 x9_1).f1))).setCell ⟨gb102, 2, none⟩ (.int .i64 ((rd_T71 l0 x9_1).f2))).heap[gb102]? = some (.cells #[.int .i64 ((rd_T71 l0 x9_1).f0), .int .i64 ((rd_T71 l0 x9_1).f1), .int .i64 ((rd_T71 l0 x9_1).f2)] 71 (0, 0))) := ⟨by (with_reducible repeat (first | refine blk_drewN ?_ _ | refine blk_drew ?_ | refine blk_alloc ?_ _)); refine blk_put (cs := #[.int .i64 ((rd_T71 l0 x9_1).f0), .int .i64 ((rd_T71 l0 x9_1).f1), .int .i64 0]) ?_ 2 _ rfl; (with_reducible repeat (first | refine blk_drewN ?_ _ | refine blk_drew ?_ | refine blk_alloc ?_ _)); refine blk_put (cs := #[.int .i64 ((rd_T71 l0 x9_1).f0), .int .i64 0, .int .i64 0]) ?_ 1 _ rfl; (with_reducible repeat (first | refine blk_drewN ?_ _ | refine blk_drew ?_ | refine blk_alloc ?_ _)); refine blk_put (cs := #[.int .i64 0, .int .i64 0, .int .i64 0]) ?_ 0 _ rfl; (with_reducible repeat (first | refine blk_drewN ?_ _ | refine blk_drew ?_ | refine blk_alloc ?_ _)); exact BK102.o⟩
           have n1_ : J0 (Below w.heap.size w (((w42.setCell ⟨gb102, 0, none⟩ (.int .i64 ((rd_T71 l0 x9_1).f0))).setCell ⟨gb102, 1, none⟩ (.int .i64 ((rd_T71 l0 x9_1).f1))).setCell ⟨gb102, 2, none⟩ (.int .i64 ((rd_T71 l0 x9_1).f2)))) := ⟨be1_ HB.o GE102.o⟩
           (try clear BK102)
           (try clear HB)
           generalize (((w42.setCell ⟨gb102, 0, none⟩ (.int .i64 ((rd_T71 l0 x9_1).f0))).setCell ⟨gb102, 1, none⟩ (.int .i64 ((rd_T71 l0 x9_1).f1))).setCell ⟨gb102, 2, none⟩ (.int .i64 ((rd_T71 l0 x9_1).f2))) = w44 at n0_ n1_ ⊢
           have BK102 := n0_; have HB := n1_; clear n0_ n1_; replace BK102 := q_ (blk_drew BK102.o); replace HB := q_ (below_drew1 HB.o)
           refine start_ (n := 38) (S := fun w' => w'.cell? ⟨gb102, 0, none⟩ = some (.int .i64 ((rd_T71 l0 x9_1).f0)) ∧ w'.cell? ⟨gb102, 1, none⟩ = some (.int .i64 ((rd_T71 l0 x9_1).f1)) ∧ w'.cell? ⟨gb102, 2, none⟩ = some (.int .i64 ((rd_T71 l0 x9_1).f2))) (ds := []) (bb 38 0) (by kernel_rfl) rfl rfl ⟨(blk_cell BK102.o 0).trans rfl, (blk_cell BK102.o 1).trans rfl, (blk_cell BK102.o 2).trans rfl⟩ (fun hHeld => ?_); refine with_tabW impl_armsOk.tab4 impl_armsOk.bits4 (fun HT_ HW_ => ?_)
           generalize w44.drew = w45 at BK102 HB hHeld ⊢
           refine pv_ 0 14 1 HT_.o ?_; refine tv_ 1 15 3 HT_.o HW_.o hHeld ?_; refine pv_ 2 16 7 HT_.o ?_; refine pv_ 3 17 15 HT_.o ?_; refine pv_ 4 18 31 HT_.o ?_; refine pv_ 6 20 95 HT_.o ?_; refine tv_ 5 19 127 HT_.o HW_.o hHeld ?_; refine tv_ 7 21 255 HT_.o HW_.o hHeld ?_; refine pv_ 8 22 511 HT_.o ?_; refine pv_ 9 23 1023 HT_.o ?_; refine pv_ 10 24 2047 HT_.o ?_; refine pv_ 11 25 4095 HT_.o ?_; refine tv_ 12 26 8191 HT_.o HW_.o hHeld ?_; refine pv_ 13 27 16383 HT_.o ?_; refine pv_ 14 28 32767 HT_.o ?_; refine pv_ 15 29 65535 HT_.o ?_; refine pv_ 16 30 131071 HT_.o ?_; refine pv_ 17 31 262143 HT_.o ?_; refine pv_ 18 32 524287 HT_.o ?_; refine pw_ 19 (some 33) (bb 38 1048575) HT_.o ?_; refine pw_ 20 (some 34) (bb 38 2097151) HT_.o ?_; refine pw_ 21 (some 35) (bb 38 4194303) HT_.o ?_; refine pw_ 22 (some 36) (bb 38 8388607) HT_.o ?_; refine pw_ 23 (some 37) (bb 38 16777215) HT_.o ?_; refine pw_ 24 (some 38) (bb 38 33554431) HT_.o ?_; refine pw_ 25 (some 39) (bb 38 67108863) HT_.o ?_; refine pw_ 26 (some 40) (bb 38 134217727) HT_.o ?_; refine pw_ 27 (some 41) (bb 38 268435455) HT_.o ?_; refine pv_ 28 42 536870911 HT_.o ?_; refine pv_ 29 43 1073741823 HT_.o ?_; refine pv_ 30 44 2147483647 HT_.o ?_; refine pv_ 31 45 4294967295 HT_.o ?_; refine pv_ 33 47 12884901887 HT_.o ?_; refine pv_ 34 48 30064771071 HT_.o ?_; refine tv_ 32 46 34359738367 HT_.o HW_.o hHeld ?_
           refine one_ (i := 35) (N := some 49) (bb 38 68719476735) rfl rfl (one_of HT_.o (by kernel_rfl)) (by decide) (fun K hK => ?_)
           refine gs_ Tryd.func57 #[.int .i64 ((rd_T71 l0 x9_1).f2), .int .i64 0, .int .i64 (wrap64 (a1 - 1))] ?_
           with_reducible refine (impl_within.calls ((rd_T71 l0 x9_1).f2) 0 (wrap64 (a1 - 1)) true _ A40.o).mono ?_
           rintro e w' ⟨rfl, ⟨nd, rfl⟩⟩; refine ⟨_, rfl, ?_⟩
           refine hK.out _ _ ⟨(blk_cell BK102.o 0).trans rfl, (blk_cell BK102.o 1).trans rfl, (blk_cell BK102.o 2).trans rfl⟩ (fun hHeld => ?_)
           clear hK K; refine no_ (some 49) ?_; refine pv_ 36 50 137438953471 HT_.o ?_; refine pv_ 37 51 274877906943 HT_.o ?_
           refine done_ (done_of HT_.o (by kernel_rfl)) ?_
           try go_wp2
           go_roundg k1
           case measure => have := HK1.o; omega
           case rel => exact ⟨(wrap64 (x9_1 + 1)), rs_, H', ⟨by have := HK1.o; omega⟩, ⟨be1_ HB.o GE102.o⟩⟩
          ·replace c41 := Bool.eq_false_iff.mpr c41; subst c41; rw [if_neg nft_] at H; obtain rfl := Option.some.inj H
           have p101 : 0 ≤ (x9_1 : Int) := of_decide_eq_true as_
           have q101 : x9_1 < (l0.length : Int) := of_decide_eq_true as_
           obtain ⟨ad101, e101, hx101_0, hx101_1, hx101_2⟩ := at_T71 HR0.o x9_1 p101 q101
           cases e101
           replace hx101_0 := mv_ HB.o hx101_0; replace hx101_1 := mv_ HB.o hx101_1; replace hx101_2 := mv_ HB.o hx101_2; replace p101 := eq_true p101; replace q101 := eq_true q101
           try go_wp2_with (first | ((with_reducible refine gate_dst (N := 6) rfl ?_); refine bx_ 6 #[.int .i64 0, .int .i64 0, .int .i64 0] 71 ?_; intro gb102 hg w46 hbox hb; have BK102 := q_ (hbox); have GE102 := ge_ hg HB; replace HB := sb_ HB hb; clear hb hbox hg; obtain ⟨hcz47_0, hcz47_1, hcz47_2, hfz47_0, hfz47_1, hfz47_2⟩ := d3_ BK102))
           have n0_ : J0 ((((w46.setCell ⟨gb102, 0, none⟩ (.int .i64 ((rd_T71 l0 x9_1).f0))).setCell ⟨gb102, 1, none⟩ (.int .i64 ((rd_T71 l0 x9_1).f1))).setCell ⟨gb102, 2, none⟩ (.int .i64 ((rd_T71 l0 x9_1).f2))).heap[gb102]? = some (.cells #[.int .i64 ((rd_T71 l0 x9_1).f0), .int .i64 ((rd_T71 l0 x9_1).f1), .int .i64 ((rd_T71 l0 x9_1).f2)] 71 (0, 0))) := ⟨by (with_reducible repeat (first | refine blk_drewN ?_ _ | refine blk_drew ?_ | refine blk_alloc ?_ _)); refine blk_put (cs := #[.int .i64 ((rd_T71 l0 x9_1).f0), .int .i64 ((rd_T71 l0 x9_1).f1), .int .i64 0]) ?_ 2 _ rfl; (with_reducible repeat (first | refine blk_drewN ?_ _ | refine blk_drew ?_ | refine blk_alloc ?_ _)); refine blk_put (cs := #[.int .i64 ((rd_T71 l0 x9_1).f0), .int .i64 0, .int .i64 0]) ?_ 1 _ rfl; (with_reducible repeat (first | refine blk_drewN ?_ _ | refine blk_drew ?_ | refine blk_alloc ?_ _)); refine blk_put (cs := #[.int .i64 0, .int .i64 0, .int .i64 0]) ?_ 0 _ rfl; (with_reducible repeat (first | refine blk_drewN ?_ _ | refine blk_drew ?_ | refine blk_alloc ?_ _)); exact BK102.o⟩
           have n1_ : J0 (Below w.heap.size w (((w46.setCell ⟨gb102, 0, none⟩ (.int .i64 ((rd_T71 l0 x9_1).f0))).setCell ⟨gb102, 1, none⟩ (.int .i64 ((rd_T71 l0 x9_1).f1))).setCell ⟨gb102, 2, none⟩ (.int .i64 ((rd_T71 l0 x9_1).f2)))) := ⟨be1_ HB.o GE102.o⟩
           (try clear BK102)
           (try clear HB)
           generalize (((w46.setCell ⟨gb102, 0, none⟩ (.int .i64 ((rd_T71 l0 x9_1).f0))).setCell ⟨gb102, 1, none⟩ (.int .i64 ((rd_T71 l0 x9_1).f1))).setCell ⟨gb102, 2, none⟩ (.int .i64 ((rd_T71 l0 x9_1).f2))) = w48 at n0_ n1_ ⊢
           have BK102 := n0_; have HB := n1_; clear n0_ n1_; replace BK102 := q_ (blk_drew BK102.o); replace HB := q_ (below_drew1 HB.o)
           refine start_ (n := 38) (S := fun w' => w'.cell? ⟨gb102, 0, none⟩ = some (.int .i64 ((rd_T71 l0 x9_1).f0)) ∧ w'.cell? ⟨gb102, 1, none⟩ = some (.int .i64 ((rd_T71 l0 x9_1).f1)) ∧ w'.cell? ⟨gb102, 2, none⟩ = some (.int .i64 ((rd_T71 l0 x9_1).f2))) (ds := []) (bb 38 0) (by kernel_rfl) rfl rfl ⟨(blk_cell BK102.o 0).trans rfl, (blk_cell BK102.o 1).trans rfl, (blk_cell BK102.o 2).trans rfl⟩ (fun hHeld => ?_); refine with_tabW impl_armsOk.tab4 impl_armsOk.bits4 (fun HT_ HW_ => ?_)
           generalize w48.drew = w49 at BK102 HB hHeld ⊢
           refine pv_ 0 14 1 HT_.o ?_; refine tv_ 1 15 3 HT_.o HW_.o hHeld ?_; refine pv_ 2 16 7 HT_.o ?_; refine pv_ 3 17 15 HT_.o ?_; refine pv_ 4 18 31 HT_.o ?_; refine pv_ 6 20 95 HT_.o ?_; refine tv_ 5 19 127 HT_.o HW_.o hHeld ?_; refine tv_ 7 21 255 HT_.o HW_.o hHeld ?_; refine pv_ 8 22 511 HT_.o ?_; refine pv_ 9 23 1023 HT_.o ?_; refine pv_ 10 24 2047 HT_.o ?_; refine pv_ 11 25 4095 HT_.o ?_; refine tv_ 12 26 8191 HT_.o HW_.o hHeld ?_; refine pv_ 13 27 16383 HT_.o ?_; refine pv_ 14 28 32767 HT_.o ?_; refine pv_ 15 29 65535 HT_.o ?_; refine pv_ 16 30 131071 HT_.o ?_; refine pv_ 17 31 262143 HT_.o ?_; refine pv_ 18 32 524287 HT_.o ?_; refine pw_ 19 (some 33) (bb 38 1048575) HT_.o ?_; refine pw_ 20 (some 34) (bb 38 2097151) HT_.o ?_; refine pw_ 21 (some 35) (bb 38 4194303) HT_.o ?_; refine pw_ 22 (some 36) (bb 38 8388607) HT_.o ?_; refine pw_ 23 (some 37) (bb 38 16777215) HT_.o ?_; refine pw_ 24 (some 38) (bb 38 33554431) HT_.o ?_; refine pw_ 25 (some 39) (bb 38 67108863) HT_.o ?_; refine pw_ 26 (some 40) (bb 38 134217727) HT_.o ?_; refine pw_ 27 (some 41) (bb 38 268435455) HT_.o ?_; refine pv_ 28 42 536870911 HT_.o ?_; refine pv_ 29 43 1073741823 HT_.o ?_; refine pv_ 30 44 2147483647 HT_.o ?_; refine pv_ 31 45 4294967295 HT_.o ?_; refine pv_ 33 47 12884901887 HT_.o ?_; refine pv_ 34 48 30064771071 HT_.o ?_; refine tv_ 32 46 34359738367 HT_.o HW_.o hHeld ?_
           refine one_ (i := 35) (N := some 49) (bb 38 68719476735) rfl rfl (one_of HT_.o (by kernel_rfl)) (by decide) (fun K hK => ?_)
           refine gs_ Tryd.func57 #[.int .i64 ((rd_T71 l0 x9_1).f2), .int .i64 0, .int .i64 (wrap64 (a1 - 1))] ?_
           with_reducible refine (impl_within.calls ((rd_T71 l0 x9_1).f2) 0 (wrap64 (a1 - 1)) false _ A40.o).mono ?_
           rintro e w' ⟨rfl, ⟨nd, rfl⟩⟩; refine ⟨_, rfl, ?_⟩
           refine hK.out _ _ ⟨(blk_cell BK102.o 0).trans rfl, (blk_cell BK102.o 1).trans rfl, (blk_cell BK102.o 2).trans rfl⟩ (fun hHeld => ?_)
           clear hK K; refine no_ (some 49) ?_; refine pv_ 36 50 137438953471 HT_.o ?_; refine pv_ 37 51 274877906943 HT_.o ?_
           refine done_ (done_of HT_.o (by kernel_rfl)) ?_
           try go_wp2
           go_ret
           exact ⟨rt_, be1_ HB.o GE102.o⟩
     ·rw [if_neg c5] at H
      exact absurd H (by simp)
    ·rw [if_neg c4] at H
     exact absurd H (by simp)
   ·rw [if_neg c3] at H; have c3b0 := df_ c3; clear c3; obtain rfl := Option.some.inj H
    go_wp2
    go_ret
    exact ⟨rt_, be_ HB.o⟩
end Go.Proofs.YtlecpdpdcocibaaDoor.P
namespace Go.Proofs.YtlecpdpdcocibaaDoor.P
open Go.RowKit Go.Proofs.YtlecpdpdcocibaaDoorW.PrintWords Go.Proofs.YtlecpdpdcocibaaDoorW.PrintLast Go.Proofs.YtlecpdpdcocibaaDoorEv
set_option linter.unusedVariables false
set_option linter.unusedSimpArgs false
def armsR (many : Int) : Int → List S71 → Bool
  | _, [] => true
  | last, a :: rest => decide (0 ≤ a.f0) && decide (a.f0 ≤ a.f1) && decide (a.f1 ≤ 255) && decide (last < a.f0) && decide (0 ≤ a.f2 ∧ a.f2 ≤ many - 1) && armsR many a.f1 rest
def armsB (many : Int) (l : List S71) : Bool := armsR many (-1) l
theorem impl_armsOk_ev (l : List S71) (many : Int) (h0 : 1 ≤ many) (h1 : many ≤ 1000) (hl : l.length ≤ 9223372036854775807) : Ev (fun k => impl_armsOk.f k l many) (armsB many l) := by
  unfold impl_armsOk.f
  have key := down l.length (fun i => ∀ last : Int, (i = 0 → last = -1) → (0 < i → last = (rd_T71 l ((i - 1 : Nat) : Int)).f1) → Ev (fun k => impl_armsOk.l0 k l many l l.length (i : Nat)) (armsR many last (l.drop i))) ?_ ?_ 0 (by omega) (-1) (fun _ => rfl) (by omega)
  · exact key
  · intro last _ _
    rw [ev_succ]
    simp [impl_armsOk.l0, ev_some, armsR]
  · intro i hi ih last hl0 hl1
    rw [ev_succ, drop_cons l z71 i hi]
    have hr : l.getD i z71 = rd_T71 l i := by simp [rd_T71]
    rw [hr]
    have ih2 := ih (rd_T71 l i).f1 (by omega) (fun _ => by rw [Nat.add_sub_cancel])
    simp only [impl_armsOk.l0, impl_within_eq, Option.bind_some, ev_ite, ev_some, armsR]
    rw [if_pos (by omega), if_pos (by omega), if_pos (by omega), wrap_succ hi (by omega), wrap_id (x := many - 1) (by omega) (by omega)]
    have hprev : 0 < i → (0 ≤ wrap64 ((i : Int) - 1) ∧ wrap64 ((i : Int) - 1) < l.length ∧ (rd_T71 l (wrap64 ((i : Int) - 1))).f1 = last) := by
      intro hp
      rw [wrap_id (x := (i : Int) - 1) (by omega) (by omega)]
      exact ⟨by omega, by omega, by rw [hl1 hp, show ((i : Int) - 1) = ((i - 1 : Nat) : Int) by omega]⟩
    generalize (l.drop (i + 1)) = T at *
    generalize rd_T71 l (i : Int) = a at *
    generalize hG : (fun k => impl_armsOk.l0 k l many l (l.length : Int) ((i + 1 : Nat) : Int)) = G at *
    by_cases c1 : a.f0 < 0
    · rw [if_pos c1]; simp; omega
    rw [if_neg c1]
    by_cases c2 : a.f0 > a.f1
    · rw [if_pos c2]; simp; omega
    rw [if_neg c2]
    by_cases c3 : a.f1 > 255
    · rw [if_pos c3]; simp; omega
    rw [if_neg c3]
    have hend : (last < a.f0) → (if decide (0 ≤ a.f2 ∧ a.f2 ≤ many - 1) = true then Ev G (decide (0 ≤ a.f0) && decide (a.f0 ≤ a.f1) && decide (a.f1 ≤ 255) && decide (last < a.f0) && decide (0 ≤ a.f2 ∧ a.f2 ≤ many - 1) && armsR many a.f1 T) else false = (decide (0 ≤ a.f0) && decide (a.f0 ≤ a.f1) && decide (a.f1 ≤ 255) && decide (last < a.f0) && decide (0 ≤ a.f2 ∧ a.f2 ≤ many - 1) && armsR many a.f1 T)) := by
      intro h5
      by_cases c4 : 0 ≤ a.f2 ∧ a.f2 ≤ many - 1
      · rw [if_pos (by simpa using c4)]
        refine ev_congr ih2 ?_
        simp [c4, show 0 ≤ a.f0 by omega, show a.f0 ≤ a.f1 by omega, show a.f1 ≤ 255 by omega, h5]
      · rw [if_neg (by simpa using c4)]
        simp [c4]
    by_cases h00 : i = 0
    · rw [if_neg (by omega)]
      exact hend (by have := hl0 h00; omega)
    · obtain ⟨h1', h2', h3'⟩ := hprev (by omega)
      rw [if_pos (by omega), if_pos h1', if_pos h2', h3']
      by_cases c5 : a.f0 ≤ last
      · rw [if_pos c5]; simp; omega
      · rw [if_neg c5]
        exact hend (by omega)
def blockB (many : Int) (b : S68) : Bool := decide (-1 ≤ b.f0 ∧ b.f0 ≤ 39) && decide (0 ≤ b.f2 ∧ b.f2 ≤ many - 1) && armsB many b.f1
def codeB (l : List S68) : Bool := decide (1 ≤ l.length) && decide (l.length ≤ 1000) && l.all (blockB l.length)
end Go.Proofs.YtlecpdpdcocibaaDoor.P
namespace Go.Proofs.YtlecpdpdcocibaaDoor.P
open Go.RowKit Go.Proofs.YtlecpdpdcocibaaDoorW.PrintWords Go.Proofs.YtlecpdpdcocibaaDoorW.PrintLast Go.Proofs.YtlecpdpdcocibaaDoorW.PrintMore
attribute [local go_sem] max2_int min2_int max_two min_two max_three min_three max_four min_four
set_option linter.unusedVariables false
set_option linter.unusedSimpArgs false
/-! ### spec_l18Arms: function 79 -/
def spec_l18Arms.l0 : Nat → Int → Int → Int → List (S71) → Int → Option (Bool)
 | 0, _, _, _, _, _ => none
 | k + 1, x1, x5, x102000, x102001, x102002 => if x5 < (x102001.length : Int) then (if 0 ≤ x5 then ((spec_l1In.f ((rd_T71 x102001 x5).f0) 0 ((rd_T71 x102001 x5).f1)).bind fun t106 => (if t106 = true then (if ((rd_T71 x102001 x5).f1) > 255 then (some false) else ((spec_l1In.f ((rd_T71 x102001 x5).f2) 0 (wrap64 (x1 - 1))).bind fun t107 => (if t107 = true then (if x5 > 0 then (if 0 ≤ (wrap64 (x5 - 1)) then (if (wrap64 (x5 - 1)) < (x102001.length : Int) then (if ((rd_T71 x102001 x5).f0) ≤ ((rd_T71 x102001 (wrap64 (x5 - 1))).f1) then (some false) else (spec_l18Arms.l0 k x1 (wrap64 (x5 + 1)) x102000 x102001 x102002)) else (none)) else (none)) else (spec_l18Arms.l0 k x1 (wrap64 (x5 + 1)) x102000 x102001 x102002)) else (some false)))) else (some false))) else (none)) else ((spec_l1In.f x102000 (-1) 39).bind fun t102 => (if t102 = true then ((spec_l1In.f x102002 0 (wrap64 (x1 - 1))).bind fun t103 => (some t103)) else (some false)))
def spec_l18Arms.f (k : Nat) (a0_0 : Int) (l0_1 : List (S71)) (a0_2 : Int) (a1 : Int) : Option (Bool) := if (l0_1.length : Int) > 256 then (some false) else (spec_l18Arms.l0 k a1 0 a0_0 l0_1 a0_2)
def spec_l18Arms.T7 : Bool × List (List Nat × List Nat) := (true, [([], []), ([0], [0]), ([], []), ([2], [2]), ([1, 3], [1, 3]), ([4], [4]), ([5, 4], [5]), ([6], [6]), ([7, 6], [6, 7]), ([8, 6], [6, 8]), ([6, 9], [6, 9]), ([10, 6], [10]), ([11], [11]), ([12, 11], [11, 12]), ([11], [11]), ([14, 11], [11, 14]), ([13, 15, 11, 11], [11, 13, 15]), ([16, 11], [11, 16]), ([11, 17], [11, 17]), ([18, 16], [18]), ([19], [19]), ([20, 19], [19, 20]), ([21, 19, 19], [19, 21]), ([22], [22]), ([23, 22], [22, 23]), ([22], [22]), ([25, 22], [22, 25]), ([22], [22]), ([27, 22], [22, 27]), ([26, 28, 22], [22, 26, 28]), ([29, 22], [22, 29]), ([30, 22], [22, 30]), ([24, 31, 22], [22, 24, 31]), ([22, 32, 19], [19, 22, 32]), ([19, 33], [19, 33])])
def spec_l18Arms.B7 : List Nat := [0, 1, 0, 4, 15, 31, 63, 127, 255, 511, 1023, 2047, 4095, 8191, 4095, 20479, 65535, 131071, 262143, 524287, 1048575, 2097151, 4194303, 8388607, 16777215, 8388607, 41943039, 8388607, 142606335, 511705087, 1048575999, 2122317823, 4294967295, 8589934591, 17179869183]
theorem spec_l18Arms.tab7 : rtab .any (opsOf Tryd.f79 7) = spec_l18Arms.T7 := by kernel_rfl
theorem spec_l18Arms.bits7 : waitsOk spec_l18Arms.T7.2 spec_l18Arms.B7 = true := by kernel_rfl
theorem spec_l18Arms.calls (k : Nat) (a0_0 : Int) (A0_1 : Option Addr) (c0_1 : Nat) (l0_1 : List (S71)) (a0_2 : Int) (a1 : Int) (r : Bool) (w : World) (hr0_1 : Kd.C k71 w A0_1 l0_1.length l0_1) (hc0_1 : l0_1.length ≤ c0_1) (h : spec_l18Arms.f k a0_0 l0_1 a0_2 a1 = some r) :
  Calls Tryd.prog 79 #[.agg #[.int .i64 a0_0, .slice A0_1 l0_1.length c0_1, .int .i64 a0_2], .int .i64 a1] w fun e w' => e = .returned (.bool r) ∧ Below w.heap.size w w' := by
 have hu68 := Tryd.underlying68; have hu71 := Tryd.underlying71; have HR0_1 := q_ hr0_1; have HC0_1 := q_ hc0_1; clear hr0_1 hc0_1; have HB := q_ (Below.refl w.heap.size w)
 have H : (if (l0_1.length : Int) > 256 then (some false) else (spec_l18Arms.l0 k a1 0 a0_0 l0_1 a0_2)) = some r := h
 clear h
 by_cases c3 : (l0_1.length : Int) > 256
 ·rw [if_pos c3] at H
  have c3b0 : decide (256 < (l0_1.length : Int)) = true := dt_ c3
  have c3b1 : decide (256 < l0_1.length) = true := decide_eq_true (by omega)
  clear c3; obtain rfl := Option.some.inj H
  go_enter Tryd.func79, Tryd.ntmps79
  go_wp2_with (first | ((with_reducible refine gate_dst (N := 2) rfl ?_); refine bx_ 2 #[.int .i64 a0_0, .slice A0_1 l0_1.length c0_1, .int .i64 a0_2] 68 ?_; intro gb101 hg w4 hbox hb; have BK101 := q_ (hbox); have GE101 := ge_ hg HB; replace HB := sb_ HB hb; clear hb hbox hg; obtain ⟨hcz5_0, hcz5_1, hcz5_2, hfz5_0, hfz5_1, hfz5_2⟩ := d3_ BK101))
  go_ret
  exact ⟨rt_, be1_ HB.o GE101.o⟩
 ·rw [if_neg c3] at H
  have c3b0 : decide (256 < (l0_1.length : Int)) = false := df_ c3
  have c3b1 : decide (256 < l0_1.length) = false := decide_eq_false (by omega)
  clear c3
  have H' := q_ H
  clear H
  go_enter Tryd.func79, Tryd.ntmps79
  go_wp2_with (first | ((with_reducible refine gate_dst (N := 2) rfl ?_); refine bx_ 2 #[.int .i64 a0_0, .slice A0_1 l0_1.length c0_1, .int .i64 a0_2] 68 ?_; intro gb101 hg w6 hbox hb; have BK101 := q_ (hbox); have GE101 := ge_ hg HB; replace HB := sb_ HB hb; clear hb hbox hg; obtain ⟨hcz7_0, hcz7_1, hcz7_2, hfz7_0, hfz7_1, hfz7_2⟩ := d3_ BK101))
  go_loopg [5] k (fun kq v5 w' => ∃ (x5_1 : Int), v5 = .int .i64 x5_1 ∧ J0 (spec_l18Arms.l0 kq a1 x5_1 a0_0 l0_1 a0_2 = some r) ∧ J0 (kq ≤ k) ∧ J0 (w'.heap[gb101]? = some (.cells #[.int .i64 a0_0, (.slice A0_1 l0_1.length c0_1), .int .i64 a0_2] 68 (0, 0))) ∧ J0 (Below w.heap.size w w'))
  case atStart => exact ⟨(0), rs_, H', ⟨Nat.le_refl _⟩, ⟨bk_ BK101.o⟩, ⟨be1_ HB.o GE101.o⟩⟩
  case round =>
   clear H'; (try clear c3); (try clear c3b0); (try clear c3b1); (try clear hcz5_0); (try clear hcz5_1); (try clear hcz5_2); (try clear hcz7_0); (try clear hcz7_1); (try clear hcz7_2); (try clear hfz5_0); (try clear hfz5_1); (try clear hfz5_2); (try clear hfz7_0); (try clear hfz7_1); (try clear hfz7_2); obtain ⟨x5_1, rfl, HA, HK1, BK101, HB⟩ := hrel
   cases gk with
   | zero => exact absurd HA.o (by simp [spec_l18Arms.l0])
   | succ k1 =>
    have H := HA.o; clear HA
    simp only [spec_l18Arms.l0] at H
    by_cases c8 : x5_1 < (l0_1.length : Int)
    ·rw [if_pos c8] at H; have c8b0 := dt_ c8; clear c8
     by_cases c9 : 0 ≤ x5_1
     ·rw [if_pos c9] at H; have c9b0 := dt_ c9; clear c9; obtain ⟨t106, A10, H⟩ := ob_ H
      by_cases c11 : t106 = true
      ·subst c11; rw [if_pos rfl] at H
       by_cases c12 : ((rd_T71 l0_1 x5_1).f1) > 255
       ·rw [if_pos c12] at H
        have c12b0 : decide (255 < ((rd_T71 l0_1 x5_1).f1)) = true := dt_ c12
        clear c12; obtain rfl := Option.some.inj H; obtain ⟨hcz13_0, hcz13_1, hcz13_2, hfz13_0, hfz13_1, hfz13_2⟩ := d3_ BK101
        have p104 : 0 ≤ (x5_1 : Int) := of_decide_eq_true as_
        have q104 : x5_1 < (l0_1.length : Int) := of_decide_eq_true as_
        obtain ⟨ad104, e104, hx104_0, hx104_1, hx104_2⟩ := at_T71 HR0_1.o x5_1 p104 q104
        cases e104
        replace hx104_0 := mv_ HB.o hx104_0; replace hx104_1 := mv_ HB.o hx104_1; replace hx104_2 := mv_ HB.o hx104_2; replace p104 := eq_true p104; replace q104 := eq_true q104
        try go_wp2_with (first | ((with_reducible refine gate_dst (N := 6) rfl ?_); refine bx_ 6 #[.int .i64 0, .int .i64 0, .int .i64 0] 71 ?_; intro gb105 hg w14 hbox hb; have BK105 := q_ (hbox); have GE105 := ge1_ hg HB GE101; have NB101_105 := nl_ hg BK101; have NB105_101 := ng_ hg BK101; replace BK101 := lb_ BK101 hb; replace HB := sb1_ HB GE101 hb; clear hb hbox hg; have hnb15 := NB105_101.o; have hnc15 := NB101_105.o; obtain ⟨hcz16_0, hcz16_1, hcz16_2, hfz16_0, hfz16_1, hfz16_2⟩ := d3_ BK105))
        have n0_ : J0 ((((w14.setCell ⟨gb105, 0, none⟩ (.int .i64 ((rd_T71 l0_1 x5_1).f0))).setCell ⟨gb105, 1, none⟩ (.int .i64 ((rd_T71 l0_1 x5_1).f1))).setCell ⟨gb105, 2, none⟩ (.int .i64 ((rd_T71 l0_1 x5_1).f2))).heap[gb101]? = some (.cells #[.int .i64 a0_0, .slice (some ad104) l0_1.length c0_1, .int .i64 a0_2] 68 (0, 0))) := ⟨by (with_reducible repeat (first | refine blk_drewN ?_ _ | refine blk_drew ?_ | refine blk_alloc ?_ _)); refine blk_far ?_ NB101_105.o _; (with_reducible repeat (first | refine blk_drewN ?_ _ | refine blk_drew ?_ | refine blk_alloc ?_ _)); refine blk_far ?_ NB101_105.o _; (with_reducible repeat (first | refine blk_drewN ?_ _ | refine blk_drew ?_ | refine blk_alloc ?_ _)); refine blk_far ?_ NB101_105.o _; (with_reducible repeat (first | refine blk_drewN ?_ _ | refine blk_drew ?_ | refine blk_alloc ?_ _)); exact BK101.o⟩
        have n1_ : J0 ((((w14.setCell ⟨gb105, 0, none⟩ (.int .i64 ((rd_T71 l0_1 x5_1).f0))).setCell ⟨gb105, 1, none⟩ (.int .i64 ((rd_T71 l0_1 x5_1).f1))).setCell ⟨gb105, 2, none⟩ (.int .i64 ((rd_T71 l0_1 x5_1).f2))).heap[gb105]? = some (.cells #[.int .i64 ((rd_T71 l0_1 x5_1).f0), .int .i64 ((rd_T71 l0_1 x5_1).f1), .int .i64 ((rd_T71 l0_1 x5_1).f2)] 71 (0, 0))) := ⟨by (with_reducible repeat (first | refine blk_drewN ?_ _ | refine blk_drew ?_ | refine blk_alloc ?_ _)); refine blk_put (cs := #[.int .i64 ((rd_T71 l0_1 x5_1).f0), .int .i64 ((rd_T71 l0_1 x5_1).f1), .int .i64 0]) ?_ 2 _ rfl; (with_reducible repeat (first | refine blk_drewN ?_ _ | refine blk_drew ?_ | refine blk_alloc ?_ _)); refine blk_put (cs := #[.int .i64 ((rd_T71 l0_1 x5_1).f0), .int .i64 0, .int .i64 0]) ?_ 1 _ rfl; (with_reducible repeat (first | refine blk_drewN ?_ _ | refine blk_drew ?_ | refine blk_alloc ?_ _)); refine blk_put (cs := #[.int .i64 0, .int .i64 0, .int .i64 0]) ?_ 0 _ rfl; (with_reducible repeat (first | refine blk_drewN ?_ _ | refine blk_drew ?_ | refine blk_alloc ?_ _)); exact BK105.o⟩
        have n2_ : J0 (Below w.heap.size w (((w14.setCell ⟨gb105, 0, none⟩ (.int .i64 ((rd_T71 l0_1 x5_1).f0))).setCell ⟨gb105, 1, none⟩ (.int .i64 ((rd_T71 l0_1 x5_1).f1))).setCell ⟨gb105, 2, none⟩ (.int .i64 ((rd_T71 l0_1 x5_1).f2)))) := ⟨be2_ HB.o GE101.o GE105.o⟩
        (try clear BK101)
        (try clear BK105)
        (try clear HB)
        generalize (((w14.setCell ⟨gb105, 0, none⟩ (.int .i64 ((rd_T71 l0_1 x5_1).f0))).setCell ⟨gb105, 1, none⟩ (.int .i64 ((rd_T71 l0_1 x5_1).f1))).setCell ⟨gb105, 2, none⟩ (.int .i64 ((rd_T71 l0_1 x5_1).f2))) = w17 at n0_ n1_ n2_ ⊢
        have BK101 := n0_; have BK105 := n1_; have HB := n2_; clear n0_ n1_ n2_; replace BK101 := q_ (blk_drew BK101.o); replace BK105 := q_ (blk_drew BK105.o); replace HB := q_ (below_drew1 HB.o)
        refine start_ (n := 35) (S := fun w' => w'.cell? ⟨gb105, 0, none⟩ = some (.int .i64 ((rd_T71 l0_1 x5_1).f0)) ∧ w'.cell? ⟨gb105, 1, none⟩ = some (.int .i64 ((rd_T71 l0_1 x5_1).f1)) ∧ w'.cell? ⟨gb105, 2, none⟩ = some (.int .i64 ((rd_T71 l0_1 x5_1).f2))) (ds := []) (bb 35 0) (by kernel_rfl) rfl rfl ⟨(blk_cell BK105.o 0).trans rfl, (blk_cell BK105.o 1).trans rfl, (blk_cell BK105.o 2).trans rfl⟩ (fun hHeld => ?_); refine with_tabW spec_l18Arms.tab7 spec_l18Arms.bits7 (fun HT_ HW_ => ?_)
        generalize w17.drew = w18 at BK101 BK105 HB hHeld ⊢
        refine pv_ 0 23 1 HT_.o ?_; refine pv_ 2 25 5 HT_.o ?_; refine tv_ 1 24 7 HT_.o HW_.o hHeld ?_; refine tv_ 3 26 15 HT_.o HW_.o hHeld ?_
        refine one_ (i := 4) (N := some 27) (bb 35 31) rfl rfl (one_of HT_.o (by kernel_rfl)) (by decide) (fun K hK => ?_)
        refine gs_ Tryd.func54 #[.int .i64 ((rd_T71 l0_1 x5_1).f0), .int .i64 0, .int .i64 ((rd_T71 l0_1 x5_1).f1)] ?_
        with_reducible refine (spec_l1In.calls ((rd_T71 l0_1 x5_1).f0) 0 ((rd_T71 l0_1 x5_1).f1) true _ A10.o).mono ?_
        rintro e w' ⟨rfl, ⟨nd, rfl⟩⟩; refine ⟨_, rfl, ?_⟩
        refine hK.out _ _ ⟨(blk_cell BK105.o 0).trans rfl, (blk_cell BK105.o 1).trans rfl, (blk_cell BK105.o 2).trans rfl⟩ (fun hHeld => ?_)
        clear hK K; refine no_ (some 27) ?_; refine pv_ 5 28 63 HT_.o ?_; refine pv_ 6 29 127 HT_.o ?_; refine pv_ 7 30 255 HT_.o ?_; refine tv_ 8 31 511 HT_.o HW_.o hHeld ?_; refine pv_ 9 32 1023 HT_.o ?_; refine pv_ 10 33 2047 HT_.o ?_; refine pv_ 11 34 4095 HT_.o ?_; refine pw_ 12 (some 35) (bb 35 8191) HT_.o ?_; refine pw_ 13 (some 36) (bb 35 16383) HT_.o ?_; refine pw_ 14 (some 37) (bb 35 32767) HT_.o ?_; refine pw_ 15 (some 38) (bb 35 65535) HT_.o ?_; refine pw_ 16 (some 39) (bb 35 131071) HT_.o ?_; refine pw_ 17 (some 40) (bb 35 262143) HT_.o ?_; refine pv_ 18 41 524287 HT_.o ?_; refine pv_ 19 42 1048575 HT_.o ?_; refine pw_ 20 (some 43) (bb 35 2097151) HT_.o ?_; refine pw_ 21 (some 44) (bb 35 4194303) HT_.o ?_; refine pw_ 22 (some 45) (bb 35 8388607) HT_.o ?_; refine pw_ 23 (some 46) (bb 35 16777215) HT_.o ?_; refine pw_ 24 (some 47) (bb 35 33554431) HT_.o ?_; refine pw_ 25 (some 48) (bb 35 67108863) HT_.o ?_; refine pw_ 26 (some 49) (bb 35 134217727) HT_.o ?_; refine pw_ 27 (some 50) (bb 35 268435455) HT_.o ?_; refine pw_ 28 (some 51) (bb 35 536870911) HT_.o ?_; refine pw_ 29 (some 52) (bb 35 1073741823) HT_.o ?_; refine pw_ 30 (some 53) (bb 35 2147483647) HT_.o ?_; refine pw_ 31 (some 54) (bb 35 4294967295) HT_.o ?_; refine pw_ 32 (some 55) (bb 35 8589934591) HT_.o ?_; refine pw_ 33 (some 56) (bb 35 17179869183) HT_.o ?_; refine pv_ 34 57 34359738367 HT_.o ?_
        refine done_ (done_of HT_.o (by kernel_rfl)) ?_
        try go_wp2
        go_ret
        exact ⟨rt_, be2_ HB.o GE101.o GE105.o⟩
       ·rw [if_neg c12] at H
        have c12b0 : decide (255 < ((rd_T71 l0_1 x5_1).f1)) = false := df_ c12
        clear c12; obtain ⟨t107, A19, H⟩ := ob_ H
        by_cases c20 : t107 = true
        ·subst c20; rw [if_pos rfl] at H
         by_cases c21 : x5_1 > 0
         ·rw [if_pos c21] at H
          have c21b0 : decide (0 < x5_1) = true := dt_ c21
          clear c21
          obtain ⟨ji22, hji22⟩ : ∃ j_ : Int, (wrap64 (x5_1 - 1)) = j_ := ⟨_, rfl⟩
          replace H : (if 0 ≤ (ji22) then (if (ji22) < (l0_1.length : Int) then (if ((rd_T71 l0_1 x5_1).f0) ≤ ((rd_T71 l0_1 (ji22)).f1) then (some false) else (spec_l18Arms.l0 k1 a1 (wrap64 (x5_1 + 1)) a0_0 l0_1 a0_2)) else (none)) else (none)) = some r := by first | (rw [hji22] at H; exact H) | (simp only [hji22] at H ⊢; exact H)
          (try rw [hji22] at A10)
          (try rw [hji22] at A19)
          have hji22w : (IntKind.i64.wrap (x5_1 - 1)) = ji22 := (i64_w _).trans hji22
          by_cases c23 : 0 ≤ (ji22)
          ·rw [if_pos c23] at H; have c23b0 := dt_ c23; clear c23
           by_cases c24 : (ji22) < (l0_1.length : Int)
           ·rw [if_pos c24] at H; have c24b0 := dt_ c24; clear c24
            by_cases c25 : ((rd_T71 l0_1 x5_1).f0) ≤ ((rd_T71 l0_1 (ji22)).f1)
            ·rw [if_pos c25] at H; have c25b0 := dt_ c25; clear c25; obtain rfl := Option.some.inj H; obtain ⟨hcz26_0, hcz26_1, hcz26_2, hfz26_0, hfz26_1, hfz26_2⟩ := d3_ BK101
             have p104 : 0 ≤ (x5_1 : Int) := of_decide_eq_true as_
             have q104 : x5_1 < (l0_1.length : Int) := of_decide_eq_true as_
             obtain ⟨ad104, e104, hx104_0, hx104_1, hx104_2⟩ := at_T71 HR0_1.o x5_1 p104 q104
             cases e104
             replace hx104_0 := mv_ HB.o hx104_0; replace hx104_1 := mv_ HB.o hx104_1; replace hx104_2 := mv_ HB.o hx104_2; replace p104 := eq_true p104; replace q104 := eq_true q104
             try go_wp2_with (first | ((with_reducible refine gate_dst (N := 6) rfl ?_); refine bx_ 6 #[.int .i64 0, .int .i64 0, .int .i64 0] 71 ?_; intro gb105 hg w27 hbox hb; have BK105 := q_ (hbox); have GE105 := ge1_ hg HB GE101; have NB101_105 := nl_ hg BK101; have NB105_101 := ng_ hg BK101; replace BK101 := lb_ BK101 hb; replace HB := sb1_ HB GE101 hb; clear hb hbox hg; have hnb28 := NB105_101.o; have hnc28 := NB101_105.o; obtain ⟨hcz29_0, hcz29_1, hcz29_2, hfz29_0, hfz29_1, hfz29_2⟩ := d3_ BK105))
             have n0_ : J0 ((((w27.setCell ⟨gb105, 0, none⟩ (.int .i64 ((rd_T71 l0_1 x5_1).f0))).setCell ⟨gb105, 1, none⟩ (.int .i64 ((rd_T71 l0_1 x5_1).f1))).setCell ⟨gb105, 2, none⟩ (.int .i64 ((rd_T71 l0_1 x5_1).f2))).heap[gb101]? = some (.cells #[.int .i64 a0_0, .slice (some ad104) l0_1.length c0_1, .int .i64 a0_2] 68 (0, 0))) := ⟨by (with_reducible repeat (first | refine blk_drewN ?_ _ | refine blk_drew ?_ | refine blk_alloc ?_ _)); refine blk_far ?_ NB101_105.o _; (with_reducible repeat (first | refine blk_drewN ?_ _ | refine blk_drew ?_ | refine blk_alloc ?_ _)); refine blk_far ?_ NB101_105.o _; (with_reducible repeat (first | refine blk_drewN ?_ _ | refine blk_drew ?_ | refine blk_alloc ?_ _)); refine blk_far ?_ NB101_105.o _; (with_reducible repeat (first | refine blk_drewN ?_ _ | refine blk_drew ?_ | refine blk_alloc ?_ _)); exact BK101.o⟩
             have n1_ : J0 ((((w27.setCell ⟨gb105, 0, none⟩ (.int .i64 ((rd_T71 l0_1 x5_1).f0))).setCell ⟨gb105, 1, none⟩ (.int .i64 ((rd_T71 l0_1 x5_1).f1))).setCell ⟨gb105, 2, none⟩ (.int .i64 ((rd_T71 l0_1 x5_1).f2))).heap[gb105]? = some (.cells #[.int .i64 ((rd_T71 l0_1 x5_1).f0), .int .i64 ((rd_T71 l0_1 x5_1).f1), .int .i64 ((rd_T71 l0_1 x5_1).f2)] 71 (0, 0))) := ⟨by (with_reducible repeat (first | refine blk_drewN ?_ _ | refine blk_drew ?_ | refine blk_alloc ?_ _)); refine blk_put (cs := #[.int .i64 ((rd_T71 l0_1 x5_1).f0), .int .i64 ((rd_T71 l0_1 x5_1).f1), .int .i64 0]) ?_ 2 _ rfl; (with_reducible repeat (first | refine blk_drewN ?_ _ | refine blk_drew ?_ | refine blk_alloc ?_ _)); refine blk_put (cs := #[.int .i64 ((rd_T71 l0_1 x5_1).f0), .int .i64 0, .int .i64 0]) ?_ 1 _ rfl; (with_reducible repeat (first | refine blk_drewN ?_ _ | refine blk_drew ?_ | refine blk_alloc ?_ _)); refine blk_put (cs := #[.int .i64 0, .int .i64 0, .int .i64 0]) ?_ 0 _ rfl; (with_reducible repeat (first | refine blk_drewN ?_ _ | refine blk_drew ?_ | refine blk_alloc ?_ _)); exact BK105.o⟩
             have n2_ : J0 (Below w.heap.size w (((w27.setCell ⟨gb105, 0, none⟩ (.int .i64 ((rd_T71 l0_1 x5_1).f0))).setCell ⟨gb105, 1, none⟩ (.int .i64 ((rd_T71 l0_1 x5_1).f1))).setCell ⟨gb105, 2, none⟩ (.int .i64 ((rd_T71 l0_1 x5_1).f2)))) := ⟨be2_ HB.o GE101.o GE105.o⟩
             (try clear BK101)
             (try clear BK105)
             (try clear HB)
             generalize (((w27.setCell ⟨gb105, 0, none⟩ (.int .i64 ((rd_T71 l0_1 x5_1).f0))).setCell ⟨gb105, 1, none⟩ (.int .i64 ((rd_T71 l0_1 x5_1).f1))).setCell ⟨gb105, 2, none⟩ (.int .i64 ((rd_T71 l0_1 x5_1).f2))) = w30 at n0_ n1_ n2_ ⊢
             have BK101 := n0_; have BK105 := n1_; have HB := n2_; clear n0_ n1_ n2_; replace BK101 := q_ (blk_drew BK101.o); replace BK105 := q_ (blk_drew BK105.o); replace HB := q_ (below_drew1 HB.o)
             have p108 : 0 ≤ ((ji22) : Int) := of_decide_eq_true as_
             have q108 : (ji22) < (l0_1.length : Int) := of_decide_eq_true as_
             obtain ⟨ad108, e108, hx108_0, hx108_1, hx108_2⟩ := at_T71 HR0_1.o (ji22) p108 q108; have hw108_2 := hx108_2; have hw108_1 := hx108_1; have hw108_0 := hx108_0
             obtain rfl : ad104 = ad108 := (by injection e108)
             replace hx108_0 := mv_ HB.o hx108_0; replace hx108_1 := mv_ HB.o hx108_1; replace hx108_2 := mv_ HB.o hx108_2; replace p108 := eq_true p108; replace q108 := eq_true q108
             refine start_ (n := 35) (S := fun w' => w'.cell? ⟨gb105, 0, none⟩ = some (.int .i64 ((rd_T71 l0_1 x5_1).f0)) ∧ w'.cell? ⟨gb105, 1, none⟩ = some (.int .i64 ((rd_T71 l0_1 x5_1).f1)) ∧ w'.cell? ⟨gb105, 2, none⟩ = some (.int .i64 ((rd_T71 l0_1 x5_1).f2)) ∧ w'.cell? ⟨gb101, 0, none⟩ = some (.int .i64 a0_0) ∧ w'.cell? ⟨gb101, 1, none⟩ = some (.slice (some ad104) l0_1.length c0_1) ∧ w'.cell? ⟨gb101, 2, none⟩ = some (.int .i64 a0_2) ∧ w'.cell? (ad104.add (((ji22)).toNat * 3)) = some (.int .i64 ((rd_T71 l0_1 (ji22)).f0)) ∧ w'.cell? ⟨(ad104.add (((ji22)).toNat * 3)).block, (ad104.add (((ji22)).toNat * 3)).off + 1, none⟩ = some (.int .i64 ((rd_T71 l0_1 (ji22)).f1)) ∧ w'.cell? ⟨(ad104.add (((ji22)).toNat * 3)).block, (ad104.add (((ji22)).toNat * 3)).off + 2, none⟩ = some (.int .i64 ((rd_T71 l0_1 (ji22)).f2))) (ds := []) (bb 35 0) (by kernel_rfl) rfl rfl ⟨(blk_cell BK105.o 0).trans rfl, (blk_cell BK105.o 1).trans rfl, (blk_cell BK105.o 2).trans rfl, (blk_cell BK101.o 0).trans rfl, (blk_cell BK101.o 1).trans rfl, (blk_cell BK101.o 2).trans rfl, (mv_ HB.o hw108_0), (mv_ HB.o hw108_1), (mv_ HB.o hw108_2)⟩ (fun hHeld => ?_); refine with_tabW spec_l18Arms.tab7 spec_l18Arms.bits7 (fun HT_ HW_ => ?_)
             generalize w30.drew = w31 at BK101 BK105 HB hx108_0 hx108_1 hx108_2 hHeld ⊢
             refine pv_ 0 23 1 HT_.o ?_; refine pv_ 2 25 5 HT_.o ?_; refine tv_ 1 24 7 HT_.o HW_.o hHeld ?_; refine tv_ 3 26 15 HT_.o HW_.o hHeld ?_
             refine one_ (i := 4) (N := some 27) (bb 35 31) rfl rfl (one_of HT_.o (by kernel_rfl)) (by decide) (fun K hK => ?_)
             refine gs_ Tryd.func54 #[.int .i64 ((rd_T71 l0_1 x5_1).f0), .int .i64 0, .int .i64 ((rd_T71 l0_1 x5_1).f1)] ?_
             with_reducible refine (spec_l1In.calls ((rd_T71 l0_1 x5_1).f0) 0 ((rd_T71 l0_1 x5_1).f1) true _ A10.o).mono ?_
             rintro e w' ⟨rfl, ⟨nd, rfl⟩⟩; refine ⟨_, rfl, ?_⟩
             refine hK.out _ _ ⟨(blk_cell BK105.o 0).trans rfl, (blk_cell BK105.o 1).trans rfl, (blk_cell BK105.o 2).trans rfl, (blk_cell BK101.o 0).trans rfl, (blk_cell BK101.o 1).trans rfl, (blk_cell BK101.o 2).trans rfl, (mv_ HB.o hw108_0), (mv_ HB.o hw108_1), (mv_ HB.o hw108_2)⟩ (fun hHeld => ?_)
             clear hK K; refine no_ (some 27) ?_; refine pv_ 5 28 63 HT_.o ?_; refine pv_ 6 29 127 HT_.o ?_; refine pv_ 7 30 255 HT_.o ?_; refine tv_ 8 31 511 HT_.o HW_.o hHeld ?_; refine pv_ 9 32 1023 HT_.o ?_; refine pv_ 10 33 2047 HT_.o ?_; refine pv_ 11 34 4095 HT_.o ?_; refine pv_ 12 35 8191 HT_.o ?_; refine pv_ 14 37 24575 HT_.o ?_; refine pv_ 15 38 57343 HT_.o ?_; refine tv_ 13 36 65535 HT_.o HW_.o hHeld ?_
             refine one_ (i := 16) (N := some 39) (bb 35 131071) rfl rfl (one_of HT_.o (by kernel_rfl)) (by decide) (fun K hK => ?_)
             refine gs_ Tryd.func54 #[.int .i64 ((rd_T71 l0_1 x5_1).f2), .int .i64 0, .int .i64 (wrap64 (a1 - 1))] ?_
             with_reducible refine (spec_l1In.calls ((rd_T71 l0_1 x5_1).f2) 0 (wrap64 (a1 - 1)) true _ A19.o).mono ?_
             rintro e w' ⟨rfl, ⟨nd, rfl⟩⟩; refine ⟨_, rfl, ?_⟩
             refine hK.out _ _ ⟨(blk_cell BK105.o 0).trans rfl, (blk_cell BK105.o 1).trans rfl, (blk_cell BK105.o 2).trans rfl, (blk_cell BK101.o 0).trans rfl, (blk_cell BK101.o 1).trans rfl, (blk_cell BK101.o 2).trans rfl, (mv_ HB.o hw108_0), (mv_ HB.o hw108_1), (mv_ HB.o hw108_2)⟩ (fun hHeld => ?_)
             clear hK K; refine no_ (some 39) ?_; refine pv_ 17 40 262143 HT_.o ?_; refine pv_ 18 41 524287 HT_.o ?_; refine pv_ 19 42 1048575 HT_.o ?_; refine pv_ 20 43 2097151 HT_.o ?_; refine pv_ 21 44 4194303 HT_.o ?_; refine pv_ 22 45 8388607 HT_.o ?_; refine pv_ 23 46 16777215 HT_.o ?_; refine pv_ 25 48 50331647 HT_.o ?_; refine pv_ 27 50 184549375 HT_.o ?_; refine pv_ 28 51 452984831 HT_.o ?_; refine tv_ 24 47 469762047 HT_.o HW_.o hHeld ?_; refine tv_ 26 49 536870911 HT_.o HW_.o hHeld ?_; refine pv_ 29 52 1073741823 HT_.o ?_; refine pv_ 30 53 2147483647 HT_.o ?_; refine tv_ 31 54 4294967295 HT_.o HW_.o hHeld ?_; refine pv_ 32 55 8589934591 HT_.o ?_; refine pv_ 33 56 17179869183 HT_.o ?_; refine pv_ 34 57 34359738367 HT_.o ?_
             refine done_ (done_of HT_.o (by kernel_rfl)) ?_
             try go_wp2
             go_ret
             exact ⟨by first | rfl | (simp [errW_none, errW_some] <;> rfl) | (simp only [← hji22]; first | rfl | (simp [errW_none, errW_some] <;> rfl)) | (simp [*, errW_none, errW_some] <;> rfl), be2_ HB.o GE101.o GE105.o⟩
            ·rw [if_neg c25] at H; have c25b0 := df_ c25; clear c25
             have H' := q_ H
             clear H; obtain ⟨hcz32_0, hcz32_1, hcz32_2, hfz32_0, hfz32_1, hfz32_2⟩ := d3_ BK101
             have p104 : 0 ≤ (x5_1 : Int) := of_decide_eq_true as_
             have q104 : x5_1 < (l0_1.length : Int) := of_decide_eq_true as_
             obtain ⟨ad104, e104, hx104_0, hx104_1, hx104_2⟩ := at_T71 HR0_1.o x5_1 p104 q104
             cases e104
             replace hx104_0 := mv_ HB.o hx104_0; replace hx104_1 := mv_ HB.o hx104_1; replace hx104_2 := mv_ HB.o hx104_2; replace p104 := eq_true p104; replace q104 := eq_true q104
             try go_wp2_with (first | ((with_reducible refine gate_dst (N := 6) rfl ?_); refine bx_ 6 #[.int .i64 0, .int .i64 0, .int .i64 0] 71 ?_; intro gb105 hg w33 hbox hb; have BK105 := q_ (hbox); have GE105 := ge1_ hg HB GE101; have NB101_105 := nl_ hg BK101; have NB105_101 := ng_ hg BK101; replace BK101 := lb_ BK101 hb; replace HB := sb1_ HB GE101 hb; clear hb hbox hg; have hnb34 := NB105_101.o; have hnc34 := NB101_105.o; obtain ⟨hcz35_0, hcz35_1, hcz35_2, hfz35_0, hfz35_1, hfz35_2⟩ := d3_ BK105))
             have n0_ : J0 ((((w33.setCell ⟨gb105, 0, none⟩ (.int .i64 ((rd_T71 l0_1 x5_1).f0))).setCell ⟨gb105, 1, none⟩ (.int .i64 ((rd_T71 l0_1 x5_1).f1))).setCell ⟨gb105, 2, none⟩ (.int .i64 ((rd_T71 l0_1 x5_1).f2))).heap[gb101]? = some (.cells #[.int .i64 a0_0, .slice (some ad104) l0_1.length c0_1, .int .i64 a0_2] 68 (0, 0))) := ⟨by (with_reducible repeat (first | refine blk_drewN ?_ _ | refine blk_drew ?_ | refine blk_alloc ?_ _)); refine blk_far ?_ NB101_105.o _; (with_reducible repeat (first | refine blk_drewN ?_ _ | refine blk_drew ?_ | refine blk_alloc ?_ _)); refine blk_far ?_ NB101_105.o _; (with_reducible repeat (first | refine blk_drewN ?_ _ | refine blk_drew ?_ | refine blk_alloc ?_ _)); refine blk_far ?_ NB101_105.o _; (with_reducible repeat (first | refine blk_drewN ?_ _ | refine blk_drew ?_ | refine blk_alloc ?_ _)); exact BK101.o⟩
             have n1_ : J0 ((((w33.setCell ⟨gb105, 0, none⟩ (.int .i64 ((rd_T71 l0_1 x5_1).f0))).setCell ⟨gb105, 1, none⟩ (.int .i64 ((rd_T71 l0_1 x5_1).f1))).setCell ⟨gb105, 2, none⟩ (.int .i64 ((rd_T71 l0_1 x5_1).f2))).heap[gb105]? = some (.cells #[.int .i64 ((rd_T71 l0_1 x5_1).f0), .int .i64 ((rd_T71 l0_1 x5_1).f1), .int .i64 ((rd_T71 l0_1 x5_1).f2)] 71 (0, 0))) := ⟨by (with_reducible repeat (first | refine blk_drewN ?_ _ | refine blk_drew ?_ | refine blk_alloc ?_ _)); refine blk_put (cs := #[.int .i64 ((rd_T71 l0_1 x5_1).f0), .int .i64 ((rd_T71 l0_1 x5_1).f1), .int .i64 0]) ?_ 2 _ rfl; (with_reducible repeat (first | refine blk_drewN ?_ _ | refine blk_drew ?_ | refine blk_alloc ?_ _)); refine blk_put (cs := #[.int .i64 ((rd_T71 l0_1 x5_1).f0), .int .i64 0, .int .i64 0]) ?_ 1 _ rfl; (with_reducible repeat (first | refine blk_drewN ?_ _ | refine blk_drew ?_ | refine blk_alloc ?_ _)); refine blk_put (cs := #[.int .i64 0, .int .i64 0, .int .i64 0]) ?_ 0 _ rfl; (with_reducible repeat (first | refine blk_drewN ?_ _ | refine blk_drew ?_ | refine blk_alloc ?_ _)); exact BK105.o⟩
             have n2_ : J0 (Below w.heap.size w (((w33.setCell ⟨gb105, 0, none⟩ (.int .i64 ((rd_T71 l0_1 x5_1).f0))).setCell ⟨gb105, 1, none⟩ (.int .i64 ((rd_T71 l0_1 x5_1).f1))).setCell ⟨gb105, 2, none⟩ (.int .i64 ((rd_T71 l0_1 x5_1).f2)))) := ⟨be2_ HB.o GE101.o GE105.o⟩
             (try clear BK101)
             (try clear BK105)
             (try clear HB)
             generalize (((w33.setCell ⟨gb105, 0, none⟩ (.int .i64 ((rd_T71 l0_1 x5_1).f0))).setCell ⟨gb105, 1, none⟩ (.int .i64 ((rd_T71 l0_1 x5_1).f1))).setCell ⟨gb105, 2, none⟩ (.int .i64 ((rd_T71 l0_1 x5_1).f2))) = w36 at n0_ n1_ n2_ ⊢
             have BK101 := n0_; have BK105 := n1_; have HB := n2_; clear n0_ n1_ n2_; replace BK101 := q_ (blk_drew BK101.o); replace BK105 := q_ (blk_drew BK105.o); replace HB := q_ (below_drew1 HB.o)
             have p108 : 0 ≤ ((ji22) : Int) := of_decide_eq_true as_
             have q108 : (ji22) < (l0_1.length : Int) := of_decide_eq_true as_
             obtain ⟨ad108, e108, hx108_0, hx108_1, hx108_2⟩ := at_T71 HR0_1.o (ji22) p108 q108; have hw108_2 := hx108_2; have hw108_1 := hx108_1; have hw108_0 := hx108_0
             obtain rfl : ad104 = ad108 := (by injection e108)
             replace hx108_0 := mv_ HB.o hx108_0; replace hx108_1 := mv_ HB.o hx108_1; replace hx108_2 := mv_ HB.o hx108_2; replace p108 := eq_true p108; replace q108 := eq_true q108
             refine start_ (n := 35) (S := fun w' => w'.cell? ⟨gb105, 0, none⟩ = some (.int .i64 ((rd_T71 l0_1 x5_1).f0)) ∧ w'.cell? ⟨gb105, 1, none⟩ = some (.int .i64 ((rd_T71 l0_1 x5_1).f1)) ∧ w'.cell? ⟨gb105, 2, none⟩ = some (.int .i64 ((rd_T71 l0_1 x5_1).f2)) ∧ w'.cell? ⟨gb101, 0, none⟩ = some (.int .i64 a0_0) ∧ w'.cell? ⟨gb101, 1, none⟩ = some (.slice (some ad104) l0_1.length c0_1) ∧ w'.cell? ⟨gb101, 2, none⟩ = some (.int .i64 a0_2) ∧ w'.cell? (ad104.add (((ji22)).toNat * 3)) = some (.int .i64 ((rd_T71 l0_1 (ji22)).f0)) ∧ w'.cell? ⟨(ad104.add (((ji22)).toNat * 3)).block, (ad104.add (((ji22)).toNat * 3)).off + 1, none⟩ = some (.int .i64 ((rd_T71 l0_1 (ji22)).f1)) ∧ w'.cell? ⟨(ad104.add (((ji22)).toNat * 3)).block, (ad104.add (((ji22)).toNat * 3)).off + 2, none⟩ = some (.int .i64 ((rd_T71 l0_1 (ji22)).f2))) (ds := []) (bb 35 0) (by kernel_rfl) rfl rfl ⟨(blk_cell BK105.o 0).trans rfl, (blk_cell BK105.o 1).trans rfl, (blk_cell BK105.o 2).trans rfl, (blk_cell BK101.o 0).trans rfl, (blk_cell BK101.o 1).trans rfl, (blk_cell BK101.o 2).trans rfl, (mv_ HB.o hw108_0), (mv_ HB.o hw108_1), (mv_ HB.o hw108_2)⟩ (fun hHeld => ?_); refine with_tabW spec_l18Arms.tab7 spec_l18Arms.bits7 (fun HT_ HW_ => ?_)
             generalize w36.drew = w37 at BK101 BK105 HB hx108_0 hx108_1 hx108_2 hHeld ⊢
             refine pv_ 0 23 1 HT_.o ?_; refine pv_ 2 25 5 HT_.o ?_; refine tv_ 1 24 7 HT_.o HW_.o hHeld ?_; refine tv_ 3 26 15 HT_.o HW_.o hHeld ?_
             refine one_ (i := 4) (N := some 27) (bb 35 31) rfl rfl (one_of HT_.o (by kernel_rfl)) (by decide) (fun K hK => ?_)
             refine gs_ Tryd.func54 #[.int .i64 ((rd_T71 l0_1 x5_1).f0), .int .i64 0, .int .i64 ((rd_T71 l0_1 x5_1).f1)] ?_
             with_reducible refine (spec_l1In.calls ((rd_T71 l0_1 x5_1).f0) 0 ((rd_T71 l0_1 x5_1).f1) true _ A10.o).mono ?_
             rintro e w' ⟨rfl, ⟨nd, rfl⟩⟩; refine ⟨_, rfl, ?_⟩
             refine hK.out _ _ ⟨(blk_cell BK105.o 0).trans rfl, (blk_cell BK105.o 1).trans rfl, (blk_cell BK105.o 2).trans rfl, (blk_cell BK101.o 0).trans rfl, (blk_cell BK101.o 1).trans rfl, (blk_cell BK101.o 2).trans rfl, (mv_ HB.o hw108_0), (mv_ HB.o hw108_1), (mv_ HB.o hw108_2)⟩ (fun hHeld => ?_)
             clear hK K; refine no_ (some 27) ?_; refine pv_ 5 28 63 HT_.o ?_; refine pv_ 6 29 127 HT_.o ?_; refine pv_ 7 30 255 HT_.o ?_; refine tv_ 8 31 511 HT_.o HW_.o hHeld ?_; refine pv_ 9 32 1023 HT_.o ?_; refine pv_ 10 33 2047 HT_.o ?_; refine pv_ 11 34 4095 HT_.o ?_; refine pv_ 12 35 8191 HT_.o ?_; refine pv_ 14 37 24575 HT_.o ?_; refine pv_ 15 38 57343 HT_.o ?_; refine tv_ 13 36 65535 HT_.o HW_.o hHeld ?_
             refine one_ (i := 16) (N := some 39) (bb 35 131071) rfl rfl (one_of HT_.o (by kernel_rfl)) (by decide) (fun K hK => ?_)
             refine gs_ Tryd.func54 #[.int .i64 ((rd_T71 l0_1 x5_1).f2), .int .i64 0, .int .i64 (wrap64 (a1 - 1))] ?_
             with_reducible refine (spec_l1In.calls ((rd_T71 l0_1 x5_1).f2) 0 (wrap64 (a1 - 1)) true _ A19.o).mono ?_
             rintro e w' ⟨rfl, ⟨nd, rfl⟩⟩; refine ⟨_, rfl, ?_⟩
             refine hK.out _ _ ⟨(blk_cell BK105.o 0).trans rfl, (blk_cell BK105.o 1).trans rfl, (blk_cell BK105.o 2).trans rfl, (blk_cell BK101.o 0).trans rfl, (blk_cell BK101.o 1).trans rfl, (blk_cell BK101.o 2).trans rfl, (mv_ HB.o hw108_0), (mv_ HB.o hw108_1), (mv_ HB.o hw108_2)⟩ (fun hHeld => ?_)
             clear hK K; refine no_ (some 39) ?_; refine pv_ 17 40 262143 HT_.o ?_; refine pv_ 18 41 524287 HT_.o ?_; refine pv_ 19 42 1048575 HT_.o ?_; refine pv_ 20 43 2097151 HT_.o ?_; refine pv_ 21 44 4194303 HT_.o ?_; refine pv_ 22 45 8388607 HT_.o ?_; refine pv_ 23 46 16777215 HT_.o ?_; refine pv_ 25 48 50331647 HT_.o ?_; refine pv_ 27 50 184549375 HT_.o ?_; refine pv_ 28 51 452984831 HT_.o ?_; refine tv_ 24 47 469762047 HT_.o HW_.o hHeld ?_; refine tv_ 26 49 536870911 HT_.o HW_.o hHeld ?_; refine pv_ 29 52 1073741823 HT_.o ?_; refine pv_ 30 53 2147483647 HT_.o ?_; refine tv_ 31 54 4294967295 HT_.o HW_.o hHeld ?_; refine pv_ 32 55 8589934591 HT_.o ?_; refine pv_ 33 56 17179869183 HT_.o ?_; refine pv_ 34 57 34359738367 HT_.o ?_
             refine done_ (done_of HT_.o (by kernel_rfl)) ?_
             try go_wp2
             go_roundg k1
             case measure => have := HK1.o; omega
             case rel => exact ⟨(wrap64 (x5_1 + 1)), rs_, H', ⟨by have := HK1.o; omega⟩, ⟨bk_ BK101.o⟩, ⟨be2_ HB.o GE101.o GE105.o⟩⟩
           ·rw [if_neg c24] at H
            exact absurd H (by simp)
          ·rw [if_neg c23] at H
           exact absurd H (by simp)
         ·rw [if_neg c21] at H
          have c21b0 : decide (0 < x5_1) = false := df_ c21
          clear c21
          have H' := q_ H
          clear H; obtain ⟨hcz38_0, hcz38_1, hcz38_2, hfz38_0, hfz38_1, hfz38_2⟩ := d3_ BK101
          have p104 : 0 ≤ (x5_1 : Int) := of_decide_eq_true as_
          have q104 : x5_1 < (l0_1.length : Int) := of_decide_eq_true as_
          obtain ⟨ad104, e104, hx104_0, hx104_1, hx104_2⟩ := at_T71 HR0_1.o x5_1 p104 q104
          cases e104
          replace hx104_0 := mv_ HB.o hx104_0; replace hx104_1 := mv_ HB.o hx104_1; replace hx104_2 := mv_ HB.o hx104_2; replace p104 := eq_true p104; replace q104 := eq_true q104
          try go_wp2_with (first | ((with_reducible refine gate_dst (N := 6) rfl ?_); refine bx_ 6 #[.int .i64 0, .int .i64 0, .int .i64 0] 71 ?_; intro gb105 hg w39 hbox hb; have BK105 := q_ (hbox); have GE105 := ge1_ hg HB GE101; have NB101_105 := nl_ hg BK101; have NB105_101 := ng_ hg BK101; replace BK101 := lb_ BK101 hb; replace HB := sb1_ HB GE101 hb; clear hb hbox hg; have hnb40 := NB105_101.o; have hnc40 := NB101_105.o; obtain ⟨hcz41_0, hcz41_1, hcz41_2, hfz41_0, hfz41_1, hfz41_2⟩ := d3_ BK105))
          have n0_ : J0 ((((w39.setCell ⟨gb105, 0, none⟩ (.int .i64 ((rd_T71 l0_1 x5_1).f0))).setCell ⟨gb105, 1, none⟩ (.int .i64 ((rd_T71 l0_1 x5_1).f1))).setCell ⟨gb105, 2, none⟩ (.int .i64 ((rd_T71 l0_1 x5_1).f2))).heap[gb101]? = some (.cells #[.int .i64 a0_0, .slice (some ad104) l0_1.length c0_1, .int .i64 a0_2] 68 (0, 0))) := ⟨by (with_reducible repeat (first | refine blk_drewN ?_ _ | refine blk_drew ?_ | refine blk_alloc ?_ _)); refine blk_far ?_ NB101_105.o _; (with_reducible repeat (first | refine blk_drewN ?_ _ | refine blk_drew ?_ | refine blk_alloc ?_ _)); refine blk_far ?_ NB101_105.o _; (with_reducible repeat (first | refine blk_drewN ?_ _ | refine blk_drew ?_ | refine blk_alloc ?_ _)); refine blk_far ?_ NB101_105.o _; (with_reducible repeat (first | refine blk_drewN ?_ _ | refine blk_drew ?_ | refine blk_alloc ?_ _)); exact BK101.o⟩
          have n1_ : J0 ((((w39.setCell ⟨gb105, 0, none⟩ (.int .i64 ((rd_T71 l0_1 x5_1).f0))).setCell ⟨gb105, 1, none⟩ (.int .i64 ((rd_T71 l0_1 x5_1).f1))).setCell ⟨gb105, 2, none⟩ (.int .i64 ((rd_T71 l0_1 x5_1).f2))).heap[gb105]? = some (.cells #[.int .i64 ((rd_T71 l0_1 x5_1).f0), .int .i64 ((rd_T71 l0_1 x5_1).f1), .int .i64 ((rd_T71 l0_1 x5_1).f2)] 71 (0, 0))) := ⟨by (with_reducible repeat (first | refine blk_drewN ?_ _ | refine blk_drew ?_ | refine blk_alloc ?_ _)); refine blk_put (cs := #[.int .i64 ((rd_T71 l0_1 x5_1).f0), .int .i64 ((rd_T71 l0_1 x5_1).f1), .int .i64 0]) ?_ 2 _ rfl; (with_reducible repeat (first | refine blk_drewN ?_ _ | refine blk_drew ?_ | refine blk_alloc ?_ _)); refine blk_put (cs := #[.int .i64 ((rd_T71 l0_1 x5_1).f0), .int .i64 0, .int .i64 0]) ?_ 1 _ rfl; (with_reducible repeat (first | refine blk_drewN ?_ _ | refine blk_drew ?_ | refine blk_alloc ?_ _)); refine blk_put (cs := #[.int .i64 0, .int .i64 0, .int .i64 0]) ?_ 0 _ rfl; (with_reducible repeat (first | refine blk_drewN ?_ _ | refine blk_drew ?_ | refine blk_alloc ?_ _)); exact BK105.o⟩
          have n2_ : J0 (Below w.heap.size w (((w39.setCell ⟨gb105, 0, none⟩ (.int .i64 ((rd_T71 l0_1 x5_1).f0))).setCell ⟨gb105, 1, none⟩ (.int .i64 ((rd_T71 l0_1 x5_1).f1))).setCell ⟨gb105, 2, none⟩ (.int .i64 ((rd_T71 l0_1 x5_1).f2)))) := ⟨be2_ HB.o GE101.o GE105.o⟩
          (try clear BK101)
          (try clear BK105)
          (try clear HB)
          generalize (((w39.setCell ⟨gb105, 0, none⟩ (.int .i64 ((rd_T71 l0_1 x5_1).f0))).setCell ⟨gb105, 1, none⟩ (.int .i64 ((rd_T71 l0_1 x5_1).f1))).setCell ⟨gb105, 2, none⟩ (.int .i64 ((rd_T71 l0_1 x5_1).f2))) = w42 at n0_ n1_ n2_ ⊢
          have BK101 := n0_; have BK105 := n1_; have HB := n2_; clear n0_ n1_ n2_; replace BK101 := q_ (blk_drew BK101.o); replace BK105 := q_ (blk_drew BK105.o); replace HB := q_ (below_drew1 HB.o)
          refine start_ (n := 35) (S := fun w' => w'.cell? ⟨gb105, 0, none⟩ = some (.int .i64 ((rd_T71 l0_1 x5_1).f0)) ∧ w'.cell? ⟨gb105, 1, none⟩ = some (.int .i64 ((rd_T71 l0_1 x5_1).f1)) ∧ w'.cell? ⟨gb105, 2, none⟩ = some (.int .i64 ((rd_T71 l0_1 x5_1).f2))) (ds := []) (bb 35 0) (by kernel_rfl) rfl rfl ⟨(blk_cell BK105.o 0).trans rfl, (blk_cell BK105.o 1).trans rfl, (blk_cell BK105.o 2).trans rfl⟩ (fun hHeld => ?_); refine with_tabW spec_l18Arms.tab7 spec_l18Arms.bits7 (fun HT_ HW_ => ?_)
          generalize w42.drew = w43 at BK101 BK105 HB hHeld ⊢
          refine pv_ 0 23 1 HT_.o ?_; refine pv_ 2 25 5 HT_.o ?_; refine tv_ 1 24 7 HT_.o HW_.o hHeld ?_; refine tv_ 3 26 15 HT_.o HW_.o hHeld ?_
          refine one_ (i := 4) (N := some 27) (bb 35 31) rfl rfl (one_of HT_.o (by kernel_rfl)) (by decide) (fun K hK => ?_)
          refine gs_ Tryd.func54 #[.int .i64 ((rd_T71 l0_1 x5_1).f0), .int .i64 0, .int .i64 ((rd_T71 l0_1 x5_1).f1)] ?_
          with_reducible refine (spec_l1In.calls ((rd_T71 l0_1 x5_1).f0) 0 ((rd_T71 l0_1 x5_1).f1) true _ A10.o).mono ?_
          rintro e w' ⟨rfl, ⟨nd, rfl⟩⟩; refine ⟨_, rfl, ?_⟩
          refine hK.out _ _ ⟨(blk_cell BK105.o 0).trans rfl, (blk_cell BK105.o 1).trans rfl, (blk_cell BK105.o 2).trans rfl⟩ (fun hHeld => ?_)
          clear hK K; refine no_ (some 27) ?_; refine pv_ 5 28 63 HT_.o ?_; refine pv_ 6 29 127 HT_.o ?_; refine pv_ 7 30 255 HT_.o ?_; refine tv_ 8 31 511 HT_.o HW_.o hHeld ?_; refine pv_ 9 32 1023 HT_.o ?_; refine pv_ 10 33 2047 HT_.o ?_; refine pv_ 11 34 4095 HT_.o ?_; refine pv_ 12 35 8191 HT_.o ?_; refine pv_ 14 37 24575 HT_.o ?_; refine pv_ 15 38 57343 HT_.o ?_; refine tv_ 13 36 65535 HT_.o HW_.o hHeld ?_
          refine one_ (i := 16) (N := some 39) (bb 35 131071) rfl rfl (one_of HT_.o (by kernel_rfl)) (by decide) (fun K hK => ?_)
          refine gs_ Tryd.func54 #[.int .i64 ((rd_T71 l0_1 x5_1).f2), .int .i64 0, .int .i64 (wrap64 (a1 - 1))] ?_
          with_reducible refine (spec_l1In.calls ((rd_T71 l0_1 x5_1).f2) 0 (wrap64 (a1 - 1)) true _ A19.o).mono ?_
          rintro e w' ⟨rfl, ⟨nd, rfl⟩⟩; refine ⟨_, rfl, ?_⟩
          refine hK.out _ _ ⟨(blk_cell BK105.o 0).trans rfl, (blk_cell BK105.o 1).trans rfl, (blk_cell BK105.o 2).trans rfl⟩ (fun hHeld => ?_)
          clear hK K; refine no_ (some 39) ?_; refine pv_ 17 40 262143 HT_.o ?_; refine pv_ 18 41 524287 HT_.o ?_; refine pv_ 19 42 1048575 HT_.o ?_; refine pv_ 20 43 2097151 HT_.o ?_; refine pv_ 21 44 4194303 HT_.o ?_; refine pv_ 22 45 8388607 HT_.o ?_; refine pw_ 23 (some 46) (bb 35 16777215) HT_.o ?_; refine pw_ 24 (some 47) (bb 35 33554431) HT_.o ?_; refine pw_ 25 (some 48) (bb 35 67108863) HT_.o ?_; refine pw_ 26 (some 49) (bb 35 134217727) HT_.o ?_; refine pw_ 27 (some 50) (bb 35 268435455) HT_.o ?_; refine pw_ 28 (some 51) (bb 35 536870911) HT_.o ?_; refine pw_ 29 (some 52) (bb 35 1073741823) HT_.o ?_; refine pw_ 30 (some 53) (bb 35 2147483647) HT_.o ?_; refine pw_ 31 (some 54) (bb 35 4294967295) HT_.o ?_; refine pw_ 32 (some 55) (bb 35 8589934591) HT_.o ?_; refine pv_ 33 56 17179869183 HT_.o ?_; refine pv_ 34 57 34359738367 HT_.o ?_
          refine done_ (done_of HT_.o (by kernel_rfl)) ?_
          try go_wp2
          go_roundg k1
          case measure => have := HK1.o; omega
          case rel => exact ⟨(wrap64 (x5_1 + 1)), rs_, H', ⟨by have := HK1.o; omega⟩, ⟨bk_ BK101.o⟩, ⟨be2_ HB.o GE101.o GE105.o⟩⟩
        ·replace c20 := Bool.eq_false_iff.mpr c20; subst c20; rw [if_neg nft_] at H; obtain rfl := Option.some.inj H; obtain ⟨hcz44_0, hcz44_1, hcz44_2, hfz44_0, hfz44_1, hfz44_2⟩ := d3_ BK101
         have p104 : 0 ≤ (x5_1 : Int) := of_decide_eq_true as_
         have q104 : x5_1 < (l0_1.length : Int) := of_decide_eq_true as_
         obtain ⟨ad104, e104, hx104_0, hx104_1, hx104_2⟩ := at_T71 HR0_1.o x5_1 p104 q104
         cases e104
         replace hx104_0 := mv_ HB.o hx104_0; replace hx104_1 := mv_ HB.o hx104_1; replace hx104_2 := mv_ HB.o hx104_2; replace p104 := eq_true p104; replace q104 := eq_true q104
         try go_wp2_with (first | ((with_reducible refine gate_dst (N := 6) rfl ?_); refine bx_ 6 #[.int .i64 0, .int .i64 0, .int .i64 0] 71 ?_; intro gb105 hg w45 hbox hb; have BK105 := q_ (hbox); have GE105 := ge1_ hg HB GE101; have NB101_105 := nl_ hg BK101; have NB105_101 := ng_ hg BK101; replace BK101 := lb_ BK101 hb; replace HB := sb1_ HB GE101 hb; clear hb hbox hg; have hnb46 := NB105_101.o; have hnc46 := NB101_105.o; obtain ⟨hcz47_0, hcz47_1, hcz47_2, hfz47_0, hfz47_1, hfz47_2⟩ := d3_ BK105))
         have n0_ : J0 ((((w45.setCell ⟨gb105, 0, none⟩ (.int .i64 ((rd_T71 l0_1 x5_1).f0))).setCell ⟨gb105, 1, none⟩ (.int .i64 ((rd_T71 l0_1 x5_1).f1))).setCell ⟨gb105, 2, none⟩ (.int .i64 ((rd_T71 l0_1 x5_1).f2))).heap[gb101]? = some (.cells #[.int .i64 a0_0, .slice (some ad104) l0_1.length c0_1, .int .i64 a0_2] 68 (0, 0))) := ⟨by (with_reducible repeat (first | refine blk_drewN ?_ _ | refine blk_drew ?_ | refine blk_alloc ?_ _)); refine blk_far ?_ NB101_105.o _; (with_reducible repeat (first | refine blk_drewN ?_ _ | refine blk_drew ?_ | refine blk_alloc ?_ _)); refine blk_far ?_ NB101_105.o _; (with_reducible repeat (first | refine blk_drewN ?_ _ | refine blk_drew ?_ | refine blk_alloc ?_ _)); refine blk_far ?_ NB101_105.o _; (with_reducible repeat (first | refine blk_drewN ?_ _ | refine blk_drew ?_ | refine blk_alloc ?_ _)); exact BK101.o⟩
         have n1_ : J0 ((((w45.setCell ⟨gb105, 0, none⟩ (.int .i64 ((rd_T71 l0_1 x5_1).f0))).setCell ⟨gb105, 1, none⟩ (.int .i64 ((rd_T71 l0_1 x5_1).f1))).setCell ⟨gb105, 2, none⟩ (.int .i64 ((rd_T71 l0_1 x5_1).f2))).heap[gb105]? = some (.cells #[.int .i64 ((rd_T71 l0_1 x5_1).f0), .int .i64 ((rd_T71 l0_1 x5_1).f1), .int .i64 ((rd_T71 l0_1 x5_1).f2)] 71 (0, 0))) := ⟨by (with_reducible repeat (first | refine blk_drewN ?_ _ | refine blk_drew ?_ | refine blk_alloc ?_ _)); refine blk_put (cs := #[.int .i64 ((rd_T71 l0_1 x5_1).f0), .int .i64 ((rd_T71 l0_1 x5_1).f1), .int .i64 0]) ?_ 2 _ rfl; (with_reducible repeat (first | refine blk_drewN ?_ _ | refine blk_drew ?_ | refine blk_alloc ?_ _)); refine blk_put (cs := #[.int .i64 ((rd_T71 l0_1 x5_1).f0), .int .i64 0, .int .i64 0]) ?_ 1 _ rfl; (with_reducible repeat (first | refine blk_drewN ?_ _ | refine blk_drew ?_ | refine blk_alloc ?_ _)); refine blk_put (cs := #[.int .i64 0, .int .i64 0, .int .i64 0]) ?_ 0 _ rfl; (with_reducible repeat (first | refine blk_drewN ?_ _ | refine blk_drew ?_ | refine blk_alloc ?_ _)); exact BK105.o⟩
         have n2_ : J0 (Below w.heap.size w (((w45.setCell ⟨gb105, 0, none⟩ (.int .i64 ((rd_T71 l0_1 x5_1).f0))).setCell ⟨gb105, 1, none⟩ (.int .i64 ((rd_T71 l0_1 x5_1).f1))).setCell ⟨gb105, 2, none⟩ (.int .i64 ((rd_T71 l0_1 x5_1).f2)))) := ⟨be2_ HB.o GE101.o GE105.o⟩
         (try clear BK101)
         (try clear BK105)
         (try clear HB)
         generalize (((w45.setCell ⟨gb105, 0, none⟩ (.int .i64 ((rd_T71 l0_1 x5_1).f0))).setCell ⟨gb105, 1, none⟩ (.int .i64 ((rd_T71 l0_1 x5_1).f1))).setCell ⟨gb105, 2, none⟩ (.int .i64 ((rd_T71 l0_1 x5_1).f2))) = w48 at n0_ n1_ n2_ ⊢
         have BK101 := n0_; have BK105 := n1_; have HB := n2_; clear n0_ n1_ n2_; replace BK101 := q_ (blk_drew BK101.o); replace BK105 := q_ (blk_drew BK105.o); replace HB := q_ (below_drew1 HB.o)
         refine start_ (n := 35) (S := fun w' => w'.cell? ⟨gb105, 0, none⟩ = some (.int .i64 ((rd_T71 l0_1 x5_1).f0)) ∧ w'.cell? ⟨gb105, 1, none⟩ = some (.int .i64 ((rd_T71 l0_1 x5_1).f1)) ∧ w'.cell? ⟨gb105, 2, none⟩ = some (.int .i64 ((rd_T71 l0_1 x5_1).f2))) (ds := []) (bb 35 0) (by kernel_rfl) rfl rfl ⟨(blk_cell BK105.o 0).trans rfl, (blk_cell BK105.o 1).trans rfl, (blk_cell BK105.o 2).trans rfl⟩ (fun hHeld => ?_); refine with_tabW spec_l18Arms.tab7 spec_l18Arms.bits7 (fun HT_ HW_ => ?_)
         generalize w48.drew = w49 at BK101 BK105 HB hHeld ⊢
         refine pv_ 0 23 1 HT_.o ?_; refine pv_ 2 25 5 HT_.o ?_; refine tv_ 1 24 7 HT_.o HW_.o hHeld ?_; refine tv_ 3 26 15 HT_.o HW_.o hHeld ?_
         refine one_ (i := 4) (N := some 27) (bb 35 31) rfl rfl (one_of HT_.o (by kernel_rfl)) (by decide) (fun K hK => ?_)
         refine gs_ Tryd.func54 #[.int .i64 ((rd_T71 l0_1 x5_1).f0), .int .i64 0, .int .i64 ((rd_T71 l0_1 x5_1).f1)] ?_
         with_reducible refine (spec_l1In.calls ((rd_T71 l0_1 x5_1).f0) 0 ((rd_T71 l0_1 x5_1).f1) true _ A10.o).mono ?_
         rintro e w' ⟨rfl, ⟨nd, rfl⟩⟩; refine ⟨_, rfl, ?_⟩
         refine hK.out _ _ ⟨(blk_cell BK105.o 0).trans rfl, (blk_cell BK105.o 1).trans rfl, (blk_cell BK105.o 2).trans rfl⟩ (fun hHeld => ?_)
         clear hK K; refine no_ (some 27) ?_; refine pv_ 5 28 63 HT_.o ?_; refine pv_ 6 29 127 HT_.o ?_; refine pv_ 7 30 255 HT_.o ?_; refine tv_ 8 31 511 HT_.o HW_.o hHeld ?_; refine pv_ 9 32 1023 HT_.o ?_; refine pv_ 10 33 2047 HT_.o ?_; refine pv_ 11 34 4095 HT_.o ?_; refine pv_ 12 35 8191 HT_.o ?_; refine pv_ 14 37 24575 HT_.o ?_; refine pv_ 15 38 57343 HT_.o ?_; refine tv_ 13 36 65535 HT_.o HW_.o hHeld ?_
         refine one_ (i := 16) (N := some 39) (bb 35 131071) rfl rfl (one_of HT_.o (by kernel_rfl)) (by decide) (fun K hK => ?_)
         refine gs_ Tryd.func54 #[.int .i64 ((rd_T71 l0_1 x5_1).f2), .int .i64 0, .int .i64 (wrap64 (a1 - 1))] ?_
         with_reducible refine (spec_l1In.calls ((rd_T71 l0_1 x5_1).f2) 0 (wrap64 (a1 - 1)) false _ A19.o).mono ?_
         rintro e w' ⟨rfl, ⟨nd, rfl⟩⟩; refine ⟨_, rfl, ?_⟩
         refine hK.out _ _ ⟨(blk_cell BK105.o 0).trans rfl, (blk_cell BK105.o 1).trans rfl, (blk_cell BK105.o 2).trans rfl⟩ (fun hHeld => ?_)
         clear hK K; refine no_ (some 39) ?_; refine pv_ 17 40 262143 HT_.o ?_; refine pv_ 18 41 524287 HT_.o ?_; refine pv_ 19 42 1048575 HT_.o ?_; refine pw_ 20 (some 43) (bb 35 2097151) HT_.o ?_; refine pw_ 21 (some 44) (bb 35 4194303) HT_.o ?_; refine pw_ 22 (some 45) (bb 35 8388607) HT_.o ?_; refine pw_ 23 (some 46) (bb 35 16777215) HT_.o ?_; refine pw_ 24 (some 47) (bb 35 33554431) HT_.o ?_; refine pw_ 25 (some 48) (bb 35 67108863) HT_.o ?_; refine pw_ 26 (some 49) (bb 35 134217727) HT_.o ?_; refine pw_ 27 (some 50) (bb 35 268435455) HT_.o ?_; refine pw_ 28 (some 51) (bb 35 536870911) HT_.o ?_; refine pw_ 29 (some 52) (bb 35 1073741823) HT_.o ?_; refine pw_ 30 (some 53) (bb 35 2147483647) HT_.o ?_; refine pw_ 31 (some 54) (bb 35 4294967295) HT_.o ?_; refine pw_ 32 (some 55) (bb 35 8589934591) HT_.o ?_; refine pw_ 33 (some 56) (bb 35 17179869183) HT_.o ?_; refine pv_ 34 57 34359738367 HT_.o ?_
         refine done_ (done_of HT_.o (by kernel_rfl)) ?_
         try go_wp2
         go_ret
         exact ⟨rt_, be2_ HB.o GE101.o GE105.o⟩
      ·replace c11 := Bool.eq_false_iff.mpr c11; subst c11; rw [if_neg nft_] at H; obtain rfl := Option.some.inj H; obtain ⟨hcz50_0, hcz50_1, hcz50_2, hfz50_0, hfz50_1, hfz50_2⟩ := d3_ BK101
       have p104 : 0 ≤ (x5_1 : Int) := of_decide_eq_true as_
       have q104 : x5_1 < (l0_1.length : Int) := of_decide_eq_true as_
       obtain ⟨ad104, e104, hx104_0, hx104_1, hx104_2⟩ := at_T71 HR0_1.o x5_1 p104 q104
       cases e104
       replace hx104_0 := mv_ HB.o hx104_0; replace hx104_1 := mv_ HB.o hx104_1; replace hx104_2 := mv_ HB.o hx104_2; replace p104 := eq_true p104; replace q104 := eq_true q104
       try go_wp2_with (first | ((with_reducible refine gate_dst (N := 6) rfl ?_); refine bx_ 6 #[.int .i64 0, .int .i64 0, .int .i64 0] 71 ?_; intro gb105 hg w51 hbox hb; have BK105 := q_ (hbox); have GE105 := ge1_ hg HB GE101; have NB101_105 := nl_ hg BK101; have NB105_101 := ng_ hg BK101; replace BK101 := lb_ BK101 hb; replace HB := sb1_ HB GE101 hb; clear hb hbox hg; have hnb52 := NB105_101.o; have hnc52 := NB101_105.o; obtain ⟨hcz53_0, hcz53_1, hcz53_2, hfz53_0, hfz53_1, hfz53_2⟩ := d3_ BK105))
       have n0_ : J0 ((((w51.setCell ⟨gb105, 0, none⟩ (.int .i64 ((rd_T71 l0_1 x5_1).f0))).setCell ⟨gb105, 1, none⟩ (.int .i64 ((rd_T71 l0_1 x5_1).f1))).setCell ⟨gb105, 2, none⟩ (.int .i64 ((rd_T71 l0_1 x5_1).f2))).heap[gb101]? = some (.cells #[.int .i64 a0_0, .slice (some ad104) l0_1.length c0_1, .int .i64 a0_2] 68 (0, 0))) := ⟨by (with_reducible repeat (first | refine blk_drewN ?_ _ | refine blk_drew ?_ | refine blk_alloc ?_ _)); refine blk_far ?_ NB101_105.o _; (with_reducible repeat (first | refine blk_drewN ?_ _ | refine blk_drew ?_ | refine blk_alloc ?_ _)); refine blk_far ?_ NB101_105.o _; (with_reducible repeat (first | refine blk_drewN ?_ _ | refine blk_drew ?_ | refine blk_alloc ?_ _)); refine blk_far ?_ NB101_105.o _; (with_reducible repeat (first | refine blk_drewN ?_ _ | refine blk_drew ?_ | refine blk_alloc ?_ _)); exact BK101.o⟩
       have n1_ : J0 ((((w51.setCell ⟨gb105, 0, none⟩ (.int .i64 ((rd_T71 l0_1 x5_1).f0))).setCell ⟨gb105, 1, none⟩ (.int .i64 ((rd_T71 l0_1 x5_1).f1))).setCell ⟨gb105, 2, none⟩ (.int .i64 ((rd_T71 l0_1 x5_1).f2))).heap[gb105]? = some (.cells #[.int .i64 ((rd_T71 l0_1 x5_1).f0), .int .i64 ((rd_T71 l0_1 x5_1).f1), .int .i64 ((rd_T71 l0_1 x5_1).f2)] 71 (0, 0))) := ⟨by (with_reducible repeat (first | refine blk_drewN ?_ _ | refine blk_drew ?_ | refine blk_alloc ?_ _)); refine blk_put (cs := #[.int .i64 ((rd_T71 l0_1 x5_1).f0), .int .i64 ((rd_T71 l0_1 x5_1).f1), .int .i64 0]) ?_ 2 _ rfl; (with_reducible repeat (first | refine blk_drewN ?_ _ | refine blk_drew ?_ | refine blk_alloc ?_ _)); refine blk_put (cs := #[.int .i64 ((rd_T71 l0_1 x5_1).f0), .int .i64 0, .int .i64 0]) ?_ 1 _ rfl; (with_reducible repeat (first | refine blk_drewN ?_ _ | refine blk_drew ?_ | refine blk_alloc ?_ _)); refine blk_put (cs := #[.int .i64 0, .int .i64 0, .int .i64 0]) ?_ 0 _ rfl; (with_reducible repeat (first | refine blk_drewN ?_ _ | refine blk_drew ?_ | refine blk_alloc ?_ _)); exact BK105.o⟩
       have n2_ : J0 (Below w.heap.size w (((w51.setCell ⟨gb105, 0, none⟩ (.int .i64 ((rd_T71 l0_1 x5_1).f0))).setCell ⟨gb105, 1, none⟩ (.int .i64 ((rd_T71 l0_1 x5_1).f1))).setCell ⟨gb105, 2, none⟩ (.int .i64 ((rd_T71 l0_1 x5_1).f2)))) := ⟨be2_ HB.o GE101.o GE105.o⟩
       (try clear BK101)
       (try clear BK105)
       (try clear HB)
       generalize (((w51.setCell ⟨gb105, 0, none⟩ (.int .i64 ((rd_T71 l0_1 x5_1).f0))).setCell ⟨gb105, 1, none⟩ (.int .i64 ((rd_T71 l0_1 x5_1).f1))).setCell ⟨gb105, 2, none⟩ (.int .i64 ((rd_T71 l0_1 x5_1).f2))) = w54 at n0_ n1_ n2_ ⊢
       have BK101 := n0_; have BK105 := n1_; have HB := n2_; clear n0_ n1_ n2_; replace BK101 := q_ (blk_drew BK101.o); replace BK105 := q_ (blk_drew BK105.o); replace HB := q_ (below_drew1 HB.o)
       refine start_ (n := 35) (S := fun w' => w'.cell? ⟨gb105, 0, none⟩ = some (.int .i64 ((rd_T71 l0_1 x5_1).f0)) ∧ w'.cell? ⟨gb105, 1, none⟩ = some (.int .i64 ((rd_T71 l0_1 x5_1).f1)) ∧ w'.cell? ⟨gb105, 2, none⟩ = some (.int .i64 ((rd_T71 l0_1 x5_1).f2))) (ds := []) (bb 35 0) (by kernel_rfl) rfl rfl ⟨(blk_cell BK105.o 0).trans rfl, (blk_cell BK105.o 1).trans rfl, (blk_cell BK105.o 2).trans rfl⟩ (fun hHeld => ?_); refine with_tabW spec_l18Arms.tab7 spec_l18Arms.bits7 (fun HT_ HW_ => ?_)
       generalize w54.drew = w55 at BK101 BK105 HB hHeld ⊢
       refine pv_ 0 23 1 HT_.o ?_; refine pv_ 2 25 5 HT_.o ?_; refine tv_ 1 24 7 HT_.o HW_.o hHeld ?_; refine tv_ 3 26 15 HT_.o HW_.o hHeld ?_
       refine one_ (i := 4) (N := some 27) (bb 35 31) rfl rfl (one_of HT_.o (by kernel_rfl)) (by decide) (fun K hK => ?_)
       refine gs_ Tryd.func54 #[.int .i64 ((rd_T71 l0_1 x5_1).f0), .int .i64 0, .int .i64 ((rd_T71 l0_1 x5_1).f1)] ?_
       with_reducible refine (spec_l1In.calls ((rd_T71 l0_1 x5_1).f0) 0 ((rd_T71 l0_1 x5_1).f1) false _ A10.o).mono ?_
       rintro e w' ⟨rfl, ⟨nd, rfl⟩⟩; refine ⟨_, rfl, ?_⟩
       refine hK.out _ _ ⟨(blk_cell BK105.o 0).trans rfl, (blk_cell BK105.o 1).trans rfl, (blk_cell BK105.o 2).trans rfl⟩ (fun hHeld => ?_)
       clear hK K; refine no_ (some 27) ?_; refine pv_ 5 28 63 HT_.o ?_; refine pv_ 6 29 127 HT_.o ?_; refine pw_ 7 (some 30) (bb 35 255) HT_.o ?_; refine pw_ 8 (some 31) (bb 35 511) HT_.o ?_; refine pw_ 9 (some 32) (bb 35 1023) HT_.o ?_; refine pv_ 10 33 2047 HT_.o ?_; refine pv_ 11 34 4095 HT_.o ?_; refine pw_ 12 (some 35) (bb 35 8191) HT_.o ?_; refine pw_ 13 (some 36) (bb 35 16383) HT_.o ?_; refine pw_ 14 (some 37) (bb 35 32767) HT_.o ?_; refine pw_ 15 (some 38) (bb 35 65535) HT_.o ?_; refine pw_ 16 (some 39) (bb 35 131071) HT_.o ?_; refine pw_ 17 (some 40) (bb 35 262143) HT_.o ?_; refine pv_ 18 41 524287 HT_.o ?_; refine pv_ 19 42 1048575 HT_.o ?_; refine pw_ 20 (some 43) (bb 35 2097151) HT_.o ?_; refine pw_ 21 (some 44) (bb 35 4194303) HT_.o ?_; refine pw_ 22 (some 45) (bb 35 8388607) HT_.o ?_; refine pw_ 23 (some 46) (bb 35 16777215) HT_.o ?_; refine pw_ 24 (some 47) (bb 35 33554431) HT_.o ?_; refine pw_ 25 (some 48) (bb 35 67108863) HT_.o ?_; refine pw_ 26 (some 49) (bb 35 134217727) HT_.o ?_; refine pw_ 27 (some 50) (bb 35 268435455) HT_.o ?_; refine pw_ 28 (some 51) (bb 35 536870911) HT_.o ?_; refine pw_ 29 (some 52) (bb 35 1073741823) HT_.o ?_; refine pw_ 30 (some 53) (bb 35 2147483647) HT_.o ?_; refine pw_ 31 (some 54) (bb 35 4294967295) HT_.o ?_; refine pw_ 32 (some 55) (bb 35 8589934591) HT_.o ?_; refine pw_ 33 (some 56) (bb 35 17179869183) HT_.o ?_; refine pv_ 34 57 34359738367 HT_.o ?_
       refine done_ (done_of HT_.o (by kernel_rfl)) ?_
       try go_wp2
       go_ret
       exact ⟨rt_, be2_ HB.o GE101.o GE105.o⟩
     ·rw [if_neg c9] at H
      exact absurd H (by simp)
    ·rw [if_neg c8] at H; have c8b0 := df_ c8; clear c8; obtain ⟨t102, A56, H⟩ := ob_ H
     by_cases c57 : t102 = true
     ·subst c57; rw [if_pos rfl] at H; obtain ⟨t103, A58, H⟩ := ob_ H; obtain rfl := Option.some.inj H; obtain ⟨hcz59_0, hcz59_1, hcz59_2, hfz59_0, hfz59_1, hfz59_2⟩ := d3_ BK101
      go_wp2_with (first | ((with_reducible refine gate_callee (f := 54) rfl ?_); refine gl_ (some 60) rfl rfl Tryd.func54 #[.int .i64 a0_0, .int .i64 (-1), .int .i64 39] ?_; (with_reducible refine (spec_l1In.calls a0_0 (-1) 39 true _ A56.o).mono ?_); rintro e w' ⟨rfl, ⟨nd, rfl⟩⟩; refine ⟨_, rfl, ?_⟩) | (go_at_call 54; (with_reducible refine (spec_l1In.calls a0_2 0 (wrap64 (a1 - 1)) t103 _ A58.o).mono ?_); rintro e w' ⟨rfl, ⟨nd, rfl⟩⟩))
      go_ret
      exact ⟨rt_, be1_ HB.o GE101.o⟩
     ·replace c57 := Bool.eq_false_iff.mpr c57; subst c57; rw [if_neg nft_] at H; obtain rfl := Option.some.inj H; obtain ⟨hcz60_0, hcz60_1, hcz60_2, hfz60_0, hfz60_1, hfz60_2⟩ := d3_ BK101
      go_wp2_with (first | ((with_reducible refine gate_callee (f := 54) rfl ?_); refine gl_ (some 60) rfl rfl Tryd.func54 #[.int .i64 a0_0, .int .i64 (-1), .int .i64 39] ?_; (with_reducible refine (spec_l1In.calls a0_0 (-1) 39 false _ A56.o).mono ?_); rintro e w' ⟨rfl, ⟨nd, rfl⟩⟩; refine ⟨_, rfl, ?_⟩))
      go_ret
      exact ⟨rt_, be1_ HB.o GE101.o⟩
/-! ### spec_CodeOk: function 40 -/
mutual
def spec_CodeOk.j0 : Nat → Int → Bool → List (S68) → Option (Bool)
 | 0, _, _, _ => none
 | k + 1, x3, x13, x102000 => if x13 = true then (some false) else (spec_CodeOk.l0 k x3 0 x102000)
def spec_CodeOk.l0 : Nat → Int → Int → List (S68) → Option (Bool)
 | 0, _, _, _ => none
 | k + 1, x3, x4, x102000 => if x4 < x3 then (if 0 ≤ x4 then (if x4 < (x102000.length : Int) then ((spec_l18Arms.f k ((rd_T68 x102000 x4).f0) ((rd_T68 x102000 x4).f1) ((rd_T68 x102000 x4).f2) x3).bind fun t103 => (if t103 = true then (spec_CodeOk.l0 k x3 (wrap64 (x4 + 1)) x102000) else (some false))) else (none)) else (none)) else (some true)
end
def spec_CodeOk.f (k : Nat) (l0_0 : List (S68)) : Option (Bool) := if (l0_0.length : Int) < 1 then (spec_CodeOk.j0 k (l0_0.length : Int) true l0_0) else (spec_CodeOk.j0 k (l0_0.length : Int) (decide ((l0_0.length : Int) > 1000)) l0_0)
theorem spec_CodeOk.calls (k : Nat) (A0_0 : Option Addr) (c0_0 : Nat) (l0_0 : List (S68)) (r : Bool) (w : World) (hr0_0 : Kd.C k68 w A0_0 l0_0.length l0_0) (hc0_0 : l0_0.length ≤ c0_0) (h : spec_CodeOk.f k l0_0 = some r) :
  Calls Tryd.prog 40 #[.agg #[.slice A0_0 l0_0.length c0_0]] w fun e w' => e = .returned (.bool r) ∧ Below w.heap.size w w' := by
 have hu29 := Tryd.underlying29; have hu68 := Tryd.underlying68; have HR0_0 := q_ hr0_0; have HC0_0 := q_ hc0_0; clear hr0_0 hc0_0; have HB := q_ (Below.refl w.heap.size w)
 have H : (if (l0_0.length : Int) < 1 then (spec_CodeOk.j0 k (l0_0.length : Int) true l0_0) else (spec_CodeOk.j0 k (l0_0.length : Int) (decide ((l0_0.length : Int) > 1000)) l0_0)) = some r := h
 clear h; have HC2 := q_ H; clear H
 go_enter Tryd.func40, Tryd.ntmps40
 go_upto_region 2 with (first | ((with_reducible refine gate_dst (N := 1) rfl ?_); refine bx_ 1 #[.slice A0_0 l0_0.length c0_0] 29 ?_; intro gb101 hg w3 hbox hb; have BK101 := q_ (hbox); have GE101 := ge_ hg HB; replace HB := sb_ HB hb; clear hb hbox hg; obtain ⟨hcz4_0, hfz4_0⟩ := d1_ BK101))
 (try simp only [Act.put, List.setIfInBounds_toArray, List.set_cons_zero, List.set_cons_succ])
 go_cut [13] (fun v13 wc => ∃ (kq : Nat) (x13_1 : Bool), v13 = .bool x13_1 ∧ J0 (spec_CodeOk.j0 kq (l0_0.length : Int) x13_1 l0_0 = some r) ∧ J0 (kq ≤ k) ∧ J0 (wc.heap[gb101]? = some (.cells #[(.slice A0_0 l0_0.length c0_0)] 29 (0, 0))) ∧ J0 (Below w.heap.size w wc))
 case first =>
  have H := HC2.o; clear HC2
  by_cases c5 : (l0_0.length : Int) < 1
  ·rw [if_pos c5] at H; have c5b0 := dt_ c5
   have c5b1 : decide (l0_0.length < 1) = true := decide_eq_true (by omega)
   clear c5
   (first | rw [c5b0] | (simp only [i64_w, i32_w]; rw [c5b0]) | skip)
   have H' := q_ H
   clear H
   go_wp2
   go_meet
   case rel => exact ⟨_, (true), rs_, H', ⟨by first | omega | exact Nat.le_refl _⟩, ⟨bk_ BK101.o⟩, ⟨be1_ HB.o GE101.o⟩⟩
  ·rw [if_neg c5] at H; have c5b0 := df_ c5
   have c5b1 : decide (l0_0.length < 1) = false := decide_eq_false (by omega)
   clear c5
   (first | rw [c5b0] | (simp only [i64_w, i32_w]; rw [c5b0]) | skip)
   have H' := q_ H
   clear H
   go_wp2
   go_meet
   case rel => exact ⟨_, (decide ((l0_0.length : Int) > 1000)), rs_, H', ⟨by first | omega | exact Nat.le_refl _⟩, ⟨bk_ BK101.o⟩, ⟨be1_ HB.o GE101.o⟩⟩
 case rest =>
  clear HC2; (try clear c5); (try clear c5b0); (try clear c5b1); (try clear hcz4_0); (try clear hfz4_0); obtain ⟨kq, x13_1, rfl, HA, HJ1, BK101, HB⟩ := hcut
  cases kq with
  | zero => exact absurd HA.o (by simp [spec_CodeOk.j0])
  | succ kj1 =>
   have H := HA.o; clear HA
   simp only [spec_CodeOk.j0] at H
   by_cases c6 : x13_1 = true
   ·subst c6; rw [if_pos rfl] at H; obtain rfl := Option.some.inj H
    go_wp2
    go_ret
    exact ⟨rt_, be1_ HB.o GE101.o⟩
   ·replace c6 := Bool.eq_false_iff.mpr c6; subst c6; rw [if_neg nft_] at H
    have H' := q_ H
    clear H
    go_wp2
    go_loopg [4] kj1 (fun kq v4 w' => ∃ (x4_2 : Int), v4 = .int .i64 x4_2 ∧ J0 (spec_CodeOk.l0 kq (l0_0.length : Int) x4_2 l0_0 = some r) ∧ J0 (kq ≤ kj1) ∧ J0 (w'.heap[gb101]? = some (.cells #[(.slice A0_0 l0_0.length c0_0)] 29 (0, 0))) ∧ J0 (Below w.heap.size w w'))
    case atStart => exact ⟨(0), rs_, H', ⟨Nat.le_refl _⟩, ⟨bk_ BK101.o⟩, ⟨be1_ HB.o GE101.o⟩⟩
    case round =>
     clear H'; (try clear c5); (try clear c5b0); (try clear c5b1); (try clear c6); (try clear hcz4_0); (try clear hfz4_0); obtain ⟨x4_2, rfl, HA, HK2, BK101, HB⟩ := hrel
     cases gk with
     | zero => exact absurd HA.o (by simp [spec_CodeOk.l0])
     | succ k2 =>
      have H := HA.o; clear HA
      simp only [spec_CodeOk.l0] at H
      by_cases c7 : x4_2 < (l0_0.length : Int)
      ·rw [if_pos c7] at H; have c7b0 := dt_ c7; clear c7
       by_cases c8 : 0 ≤ x4_2
       ·rw [if_pos c8] at H; have c8b0 := dt_ c8; clear c8
        by_cases c9 : x4_2 < (l0_0.length : Int)
        ·rw [if_pos c9] at H; have c9b0 := dt_ c9; clear c9; obtain ⟨t103, A10, H⟩ := ob_ H
         by_cases c11 : t103 = true
         ·subst c11; rw [if_pos rfl] at H
          have H' := q_ H
          clear H; obtain ⟨hcz12_0, hfz12_0⟩ := d1_ BK101
          have p102 : 0 ≤ (x4_2 : Int) := of_decide_eq_true as_
          have q102 : x4_2 < (l0_0.length : Int) := of_decide_eq_true as_
          obtain ⟨ad102, A102_1, c102_1, e102, hx102_0, hx102_1, hx102_2, hl102_1, hi102_1⟩ := at_T68 HR0_0.o x4_2 p102 q102
          cases e102
          replace hx102_0 := mv_ HB.o hx102_0; replace hx102_1 := mv_ HB.o hx102_1; replace hx102_2 := mv_ HB.o hx102_2; have HR102_1 := q_ hi102_1; have HC102_1 := q_ hl102_1; clear hi102_1 hl102_1; replace p102 := eq_true p102; replace q102 := eq_true q102
          go_wp2_with (first | ((with_reducible refine gate_callee (f := 79) rfl ?_); refine gl_ (some 25) rfl rfl Tryd.func79 #[.agg #[.int .i64 ((rd_T68 l0_0 x4_2).f0), .slice A102_1 ((rd_T68 l0_0 x4_2).f1).length c102_1, .int .i64 ((rd_T68 l0_0 x4_2).f2)], .int .i64 (l0_0.length : Int)] ?_; (with_reducible refine (spec_l18Arms.calls k2 ((rd_T68 l0_0 x4_2).f0) _ _ ((rd_T68 l0_0 x4_2).f1) ((rd_T68 l0_0 x4_2).f2) (l0_0.length : Int) true _ ?side1 ?side2 A10.o).mono ?_); (case side1 => exact Kd.C_below HR102_1.o (be_ HB.o)); (case side2 => exact HC102_1.o); rintro e w13 ⟨rfl, hb⟩; refine ⟨_, rfl, ?_⟩; replace BK101 := lb_ BK101 hb; replace HB := sb1_ HB GE101 hb; (try clear hb)))
          go_roundg k2
          case measure => have := HJ1.o; have := HK2.o; omega
          case rel => exact ⟨(wrap64 (x4_2 + 1)), rs_, H', ⟨by have := HJ1.o; have := HK2.o; omega⟩, ⟨bk_ BK101.o⟩, ⟨be1_ HB.o GE101.o⟩⟩
         ·replace c11 := Bool.eq_false_iff.mpr c11; subst c11; rw [if_neg nft_] at H; obtain rfl := Option.some.inj H; obtain ⟨hcz14_0, hfz14_0⟩ := d1_ BK101
          have p102 : 0 ≤ (x4_2 : Int) := of_decide_eq_true as_
          have q102 : x4_2 < (l0_0.length : Int) := of_decide_eq_true as_
          obtain ⟨ad102, A102_1, c102_1, e102, hx102_0, hx102_1, hx102_2, hl102_1, hi102_1⟩ := at_T68 HR0_0.o x4_2 p102 q102
          cases e102
          replace hx102_0 := mv_ HB.o hx102_0; replace hx102_1 := mv_ HB.o hx102_1; replace hx102_2 := mv_ HB.o hx102_2; have HR102_1 := q_ hi102_1; have HC102_1 := q_ hl102_1; clear hi102_1 hl102_1; replace p102 := eq_true p102; replace q102 := eq_true q102
          go_wp2_with (first | ((with_reducible refine gate_callee (f := 79) rfl ?_); refine gl_ (some 25) rfl rfl Tryd.func79 #[.agg #[.int .i64 ((rd_T68 l0_0 x4_2).f0), .slice A102_1 ((rd_T68 l0_0 x4_2).f1).length c102_1, .int .i64 ((rd_T68 l0_0 x4_2).f2)], .int .i64 (l0_0.length : Int)] ?_; (with_reducible refine (spec_l18Arms.calls k2 ((rd_T68 l0_0 x4_2).f0) _ _ ((rd_T68 l0_0 x4_2).f1) ((rd_T68 l0_0 x4_2).f2) (l0_0.length : Int) false _ ?side1 ?side2 A10.o).mono ?_); (case side1 => exact Kd.C_below HR102_1.o (be_ HB.o)); (case side2 => exact HC102_1.o); rintro e w15 ⟨rfl, hb⟩; refine ⟨_, rfl, ?_⟩; replace BK101 := lb_ BK101 hb; replace HB := sb1_ HB GE101 hb; (try clear hb)))
          go_ret
          exact ⟨rt_, be1_ HB.o GE101.o⟩
        ·rw [if_neg c9] at H
         exact absurd H (by simp)
       ·rw [if_neg c8] at H
        exact absurd H (by simp)
      ·rw [if_neg c7] at H; have c7b0 := df_ c7; clear c7; obtain rfl := Option.some.inj H
       go_wp2
       go_ret
       exact ⟨rt_, be1_ HB.o GE101.o⟩
/-! ### impl_CBlock_81: function 81 -/
def impl_CBlock_81.f (l0 : List (S68)) : Option (Int) := some (l0.length : Int)
theorem impl_CBlock_81.calls (A0 : Option Addr) (c0 : Nat) (l0 : List (S68)) (r : Int) (w : World) (hr0 : Kd.C k68 w A0 l0.length l0) (hc0 : l0.length ≤ c0) (h : impl_CBlock_81.f l0 = some r) :
  Calls Tryd.prog 81 #[.slice A0 l0.length c0] w fun e w' => e = .returned (.int .i64 r) ∧ Drawn0 w w' := by
 have HR0 := q_ hr0; have HC0 := q_ hc0; clear hr0 hc0
 have H : (some (l0.length : Int)) = some r := h
 clear h; obtain rfl := Option.some.inj H
 go_enter Tryd.func81, Tryd.ntmps81
 go_wp2
 go_ret
 exact ⟨by first | rfl | (simp; done) | (simp [*]; done), by repeat (first | exact Drawn0.refl _ | apply Drawn0.step)⟩
end Go.Proofs.YtlecpdpdcocibaaDoor.P
namespace Go.Proofs.YtlecpdpdcocibaaDoor.P
open Go.RowKit Go.Shelf Go.Proofs.YtlecpdpdcocibaaDoorW.PrintWords Go.Proofs.YtlecpdpdcocibaaDoorW.PrintLast Go.Proofs.YtlecpdpdcocibaaDoorW.PrintMore Go.Proofs.YtlecpdpdcocibaaDoorEv
set_option linter.unusedVariables false
set_option linter.unusedSimpArgs false
theorem IndexFunc_CBlock (g : Nat) (lb : Array Value) (eg : ∀ args w, (callFunc g args).run Tryd.prog w = .ok (.enter g args) w) (p : S68 → Bool) (A0 : Option Addr) (c0 : Nat) (l0 : List S68) (w : World) (hr0 : Kd.C k68 w A0 l0.length l0)
    (hp : ∀ (W : World) (x : S68) (A : Option Addr) (c : Nat), x ∈ l0 → Below w.heap.size w W → Kd.C k71 W A x.f1.length x.f1 → x.f1.length ≤ c → Calls Tryd.prog g (#[.agg #[.int .i64 x.f0, .slice A x.f1.length c, .int .i64 x.f2]] ++ lb) W fun e w' => e = .returned (.bool (p x)) ∧ Below W.heap.size W w') :
    Calls Tryd.prog 113 #[.slice A0 l0.length c0, .func (.func g) #[] lb] w fun e w' => e = .returned (.int .i64 (idxP p l0 0)) ∧ Below w.heap.size w w' := by
  have hn := hr0.2.1
  have HP := Lib.hid hp
  clear hp
  have HR := q_ hr0
  clear hr0
  go_enter Tryd.func113, Tryd.ntmps113
  go_wp2
  go_loopg [5, 8] l0.length (fun gg _ s8 wr => ∃ kk : Nat, kk ≤ l0.length ∧ l0.length - kk ≤ gg ∧ s8 = .int .i64 kk ∧ J0 (Below w.heap.size w wr) ∧ J0 (idxP p l0 0 = idxP p (l0.drop kk) kk))
  case atStart => exact ⟨0, Nat.zero_le _, by omega, rfl, ⟨Below.refl _ w⟩, ⟨by simp⟩⟩
  case round =>
    obtain ⟨kk, hkk, hg, rfl, BW, HA⟩ := hrel
    by_cases hlt : kk < l0.length
    · have hltz : (kk : Int) < (l0.length : Int) := by omega
      obtain ⟨ad, A1, c1, rfl, hx0, hx1, hx2, hl1, hi1⟩ := at_T68 HR.o (kk : Int) (by omega) hltz
      rw [Int.toNat_natCast] at hx0 hx1 hx2
      replace hx0 := (BW.o.cell (World.block_lt_of_cell? w _ hx0)).trans hx0
      replace hx1 := (BW.o.cell (World.block_lt_of_cell? w _ hx1)).trans hx1
      replace hx2 := (BW.o.cell (World.block_lt_of_cell? w _ hx2)).trans hx2
      have hmem : rd_T68 l0 (kk : Int) ∈ l0 := by
        unfold rd_T68
        rw [List.getD_eq_getElem?_getD, List.getElem?_eq_getElem (by simpa using hlt)]
        exact List.getElem_mem _
      have hcall := HP.out wr (rd_T68 l0 (kk : Int)) A1 c1 hmem BW.o (Kd.C_below hi1 BW.o) hl1
      have hstep : J0 (idxP p l0 0 = if p (rd_T68 l0 (kk : Int)) then (kk : Int) else idxP p (l0.drop (kk + 1)) ((kk + 1 : Nat) : Int)) := ⟨by
        rw [HA.o, drop_cons l0 z68 kk hlt]
        have hr : l0.getD kk z68 = rd_T68 l0 (kk : Int) := by simp [rd_T68]
        rw [hr]
        rfl⟩
      clear hmem hi1 hl1
      generalize rd_T68 l0 (kk : Int) = y at *
      cases hq : p y with
      | true =>
        rw [hq] at hcall
        have hs2 : J0 (idxP p l0 0 = (kk : Int)) := ⟨by rw [hstep.o, hq]; rfl⟩
        clear hstep hq HA
        go_wp2_with (go_at_fn g; refine hcall.mono ?_; rintro e w' ⟨rfl, hb'⟩)
        go_ret
        exact ⟨by (rw [hs2.o]; try rfl), below_then BW.o BW.o.size hb'⟩
      | false =>
        rw [hq] at hcall
        have hs2 : J0 (idxP p l0 0 = idxP p (l0.drop (kk + 1)) ((kk + 1 : Nat) : Int)) := ⟨by rw [hstep.o, hq]; rfl⟩
        clear hstep hq HA
        go_wp2_with (go_at_fn g; refine hcall.mono ?_; rintro e w' ⟨rfl, hb'⟩)
        go_roundg (l0.length - (kk + 1))
        case measure => omega
        case rel => exact ⟨kk + 1, by omega, by omega, by go_num, ⟨below_then BW.o BW.o.size hb'⟩, hs2⟩
    · have hltz : ¬ (kk : Int) < (l0.length : Int) := by omega
      have hk : kk = l0.length := by omega
      have hs2 : J0 (idxP p l0 0 = -1) := ⟨by rw [HA.o, hk]; simp [idxP]⟩
      clear hk HA
      go_wp2
      go_ret
      exact ⟨by (rw [hs2.o]; try rfl), BW.o⟩
theorem ContainsFunc_CBlock (g : Nat) (lb : Array Value) (eg : ∀ args w, (callFunc g args).run Tryd.prog w = .ok (.enter g args) w) (p : S68 → Bool) (A0 : Option Addr) (c0 : Nat) (l0 : List S68) (w : World) (hr0 : Kd.C k68 w A0 l0.length l0)
    (hp : ∀ (W : World) (x : S68) (A : Option Addr) (c : Nat), x ∈ l0 → Below w.heap.size w W → Kd.C k71 W A x.f1.length x.f1 → x.f1.length ≤ c → Calls Tryd.prog g (#[.agg #[.int .i64 x.f0, .slice A x.f1.length c, .int .i64 x.f2]] ++ lb) W fun e w' => e = .returned (.bool (p x)) ∧ Below W.heap.size W w') :
    Calls Tryd.prog 82 #[.slice A0 l0.length c0, .func (.func g) #[] lb] w fun e w' => e = .returned (.bool (l0.any p)) ∧ Below w.heap.size w w' := by
  have hc := IndexFunc_CBlock g lb eg p A0 c0 l0 w hr0 hp
  have ha : l0.any p = decide (0 ≤ idxP p l0 0) := by
    rw [Bool.eq_iff_iff, decide_eq_true_iff, idxP_ge p l0 0 (by omega)]
  rw [ha]
  clear ha hr0 hp
  generalize idxP p l0 0 = i at hc ⊢
  go_enter Tryd.func82, Tryd.ntmps82
  go_wp2_with (go_at_call 113; refine hc.mono ?_; rintro e w' ⟨rfl, hb'⟩)
  go_ret
  exact ⟨rfl, hb'⟩
theorem CodeOk_1_calls (many : Int) (h0 : 1 ≤ many) (h1 : many ≤ 1000) (B : Nat) (W : World) (hB : B < W.heap.size) (hcell : W.cell? ⟨B, 0, none⟩ = some (.int .i64 many)) (x : S68) (A : Option Addr) (c : Nat) (hx : Kd.C k71 W A x.f1.length x.f1) (hc : x.f1.length ≤ c) :
    Calls Tryd.prog 83 #[.agg #[.int .i64 x.f0, .slice A x.f1.length c, .int .i64 x.f2], .pointer (some ⟨B, 0, none⟩)] W fun e w' => e = .returned (.bool (!blockB many x)) ∧ Below W.heap.size W w' := by
  have hl := hx.2.1
  obtain ⟨k, hk⟩ := ev_get (impl_armsOk_ev x.f1 many h0 h1 hl)
  unfold blockB
  have hw1 := q_ (impl_within_eq x.f0 (-1) 39)
  have hw2 := q_ (impl_within_eq x.f2 0 (many - 1))
  generalize decide (-1 ≤ x.f0 ∧ x.f0 ≤ 39) = b1 at hw1 ⊢
  generalize decide (0 ≤ x.f2 ∧ x.f2 ≤ many - 1) = b2 at hw2 ⊢
  generalize armsB many x.f1 = b3 at hk ⊢
  have HX := q_ hx
  have HC := q_ hc
  have HK := q_ hk
  clear hx hc hk
  have hne : B ≠ W.heap.size := by omega
  have hb0 : Below W.heap.size W (W.alloc (.cells #[.int .i64 x.f0, .slice A x.f1.length c, .int .i64 x.f2] 68)) := (Below.refl _ _).alloc (Nat.le_refl _) _
  cases b1 with
  | false =>
    go_enter Tryd.func83, Tryd.ntmps83
    go_wp2_with (go_at_call 57; refine (impl_within.calls _ _ _ _ _ hw1.o).mono ?_; rintro e w' ⟨rfl, ⟨nd, rfl⟩⟩)
    go_ret
    exact ⟨rfl, by repeat (first | exact hb0 | apply pw_below_drewN | apply below_drew1)⟩
  | true =>
    cases b2 with
    | false =>
      go_enter Tryd.func83, Tryd.ntmps83
      go_wp2_with fail
      refine (impl_within.calls _ _ _ _ _ hw1.o).mono ?_
      rintro e w' ⟨rfl, ⟨nd, rfl⟩⟩
      go_wp2_with fail
      refine (impl_within.calls _ _ _ _ _ hw2.o).mono ?_
      rintro e w' ⟨rfl, ⟨nd2, rfl⟩⟩
      go_wp2_with fail
      go_ret
      exact ⟨rfl, by repeat (first | exact hb0 | apply pw_below_drewN | apply below_drew1)⟩
    | true =>
      go_enter Tryd.func83, Tryd.ntmps83
      go_wp2_with fail
      refine (impl_within.calls _ _ _ _ _ hw1.o).mono ?_
      rintro e w' ⟨rfl, ⟨nd, rfl⟩⟩
      go_wp2_with fail
      refine (impl_within.calls _ _ _ _ _ hw2.o).mono ?_
      rintro e w' ⟨rfl, ⟨nd2, rfl⟩⟩
      go_wp2_with fail
      refine (impl_armsOk.calls k _ _ x.f1 many b3 _ ?side1 HC.o HK.o).mono ?_
      case side1 => exact Kd.C_below HX.o (by repeat (first | exact hb0 | apply pw_below_drewN | apply below_drew1))
      rintro e w' ⟨rfl, hb2⟩
      go_wp2_with fail
      go_ret
      exact ⟨rfl, below_step (by repeat (first | exact hb0 | apply pw_below_drewN | apply below_drew1)) hb2⟩
/-! CodeOk itself. -/
theorem codeB_small {l : List S68} (h : codeB l = true) : 1 ≤ l.length ∧ l.length ≤ 1000 := by
  simp only [codeB, Bool.and_eq_true, decide_eq_true_eq] at h
  exact h.1
theorem CodeOk_hand (A0 : Option Addr) (c0 : Nat) (l0 : List S68) (w : World) (hr0 : Kd.C k68 w A0 l0.length l0) (hc0 : l0.length ≤ c0) :
    Calls Tryd.prog 43 #[.agg #[.slice A0 l0.length c0]] w fun e w' => e = .returned (.bool (codeB l0)) ∧ Below w.heap.size w w' := by
  have HR := q_ hr0
  have HC := q_ hc0
  have hw1 := q_ (impl_within_eq (l0.length : Int) 1 1000)
  have hsz := q_ (show impl_CBlock_81.f l0 = some (l0.length : Int) from rfl)
  clear hr0 hc0
  have eg : ∀ args w, (callFunc 83 args).run Tryd.prog w = .ok (.enter 83 args) w := enters_of Tryd.func83 (by kernel_rfl) rfl
  by_cases hs : 1 ≤ l0.length ∧ l0.length ≤ 1000
  · have hd : decide ((1 : Int) ≤ (l0.length : Int) ∧ (l0.length : Int) ≤ 1000) = true := decide_eq_true (by omega)
    rw [hd] at hw1
    have hcode : codeB l0 = !(l0.any fun b => !blockB l0.length b) := by
      unfold codeB
      rw [decide_eq_true hs.1, decide_eq_true hs.2, Bool.true_and, Bool.true_and, List.all_eq_not_any_not]
    rw [hcode]
    have HS := q_ hs
    clear hs hd hcode
    go_enter Tryd.func43, Tryd.ntmps43
    go_wp2_with fail
    refine (impl_CBlock_81.calls _ _ l0 _ _ ?side1 HC.o hsz.o).mono ?_
    case side1 => exact Kd.C_below HR.o (by repeat (first | exact Below.refl _ _ | apply below_alloc | apply pw_below_drewN | apply below_drew1))
    rintro e w' ⟨rfl, ⟨nd, rfl⟩⟩
    go_wp2_with fail
    refine (impl_within.calls _ _ _ _ _ hw1.o).mono ?_
    rintro e w' ⟨rfl, ⟨nd2, rfl⟩⟩
    go_wp2_with fail
    refine (ContainsFunc_CBlock 83 #[.pointer (some ⟨w.heap.size + 1, 0, none⟩)] eg (fun b => !blockB l0.length b) _ _ l0 _ ?hr ?hp).mono ?_
    case hr => exact Kd.C_below HR.o (by repeat (first | exact Below.refl _ _ | apply below_alloc | apply pw_below_drewN | apply below_drew1))
    case hp =>
      intro W x A c hx hW hk hc
      refine CodeOk_1_calls l0.length (by have := HS.o; omega) (by have := HS.o; omega) (w.heap.size + 1) W ?_ ?_ x A c hk hc
      · have := hW.size
        simp at this
        omega
      · refine (hW.cell (p := ⟨w.heap.size + 1, 0, none⟩) (by simp)).trans ?_
        go_simp
    rintro e w' ⟨rfl, hb⟩
    go_wp2_with fail
    go_ret
    exact ⟨rfl, below_step (by repeat (first | exact Below.refl _ _ | apply below_alloc | apply pw_below_drewN | apply below_drew1)) hb⟩
  · have hd : decide ((1 : Int) ≤ (l0.length : Int) ∧ (l0.length : Int) ≤ 1000) = false := decide_eq_false (by omega)
    rw [hd] at hw1
    have hcode : codeB l0 = false := by
      unfold codeB
      by_cases h1 : 1 ≤ l0.length
      · simp [h1, show ¬ l0.length ≤ 1000 by omega]
      · simp [h1]
    rw [hcode]
    clear hs hd hcode
    go_enter Tryd.func43, Tryd.ntmps43
    go_wp2_with fail
    refine (impl_CBlock_81.calls _ _ l0 _ _ ?side1 HC.o hsz.o).mono ?_
    case side1 => exact Kd.C_below HR.o (by repeat (first | exact Below.refl _ _ | apply below_alloc | apply pw_below_drewN | apply below_drew1))
    rintro e w' ⟨rfl, ⟨nd, rfl⟩⟩
    go_wp2_with fail
    refine (impl_within.calls _ _ _ _ _ hw1.o).mono ?_
    rintro e w' ⟨rfl, ⟨nd2, rfl⟩⟩
    go_wp2_with fail
    go_ret
    exact ⟨rfl, by repeat (first | exact Below.refl _ _ | apply below_alloc | apply pw_below_drewN | apply below_drew1)⟩
end Go.Proofs.YtlecpdpdcocibaaDoor.P
namespace Go.Proofs.YtlecpdpdcocibaaDoor.P
open Go.RowKit Go.Proofs.YtlecpdpdcocibaaDoorW.PrintWords Go.Proofs.YtlecpdpdcocibaaDoorW.PrintLast Go.Proofs.YtlecpdpdcocibaaDoorW.PrintMore
attribute [local go_sem] max2_int min2_int max_two min_two max_three min_three max_four min_four
set_option linter.unusedVariables false
set_option linter.unusedSimpArgs false
/-! ### impl_CodeOk: function 43 -/
def impl_CodeOk.f (l0_0 : List (S68)) : Option (Bool) := some (codeB l0_0)
theorem impl_CodeOk.calls (A0_0 : Option Addr) (c0_0 : Nat) (l0_0 : List (S68)) (r : Bool) (w : World) (hr0_0 : Kd.C k68 w A0_0 l0_0.length l0_0) (hc0_0 : l0_0.length ≤ c0_0) (h : impl_CodeOk.f l0_0 = some r) :
    Calls Tryd.prog 43 #[.agg #[.slice A0_0 l0_0.length c0_0]] w fun e w' => e = .returned (.bool r) ∧ Below w.heap.size w w' := by
  obtain rfl := Option.some.inj h
  exact CodeOk_hand A0_0 c0_0 l0_0 w hr0_0 hc0_0
end Go.Proofs.YtlecpdpdcocibaaDoor.P
namespace Go.Proofs.YtlecpdpdcocibaaDoor.P
open Go.RowKit Go.Proofs.YtlecpdpdcocibaaDoorW.PrintWords Go.Proofs.YtlecpdpdcocibaaDoorW.PrintLast Go.Proofs.YtlecpdpdcocibaaDoorEv
set_option linter.unusedVariables false
set_option linter.unusedSimpArgs false
theorem armsR_few (many : Int) : ∀ (l : List S71) (last : Int), -1 ≤ last → armsR many last l = true → (l.length : Int) ≤ 255 - last ∨ l = [] := by
  intro l
  induction l with
  | nil => intro last _ _; exact .inr rfl
  | cons a l ih =>
    intro last h0 h
    simp only [armsR, Bool.and_eq_true, decide_eq_true_eq] at h
    left
    rcases ih a.f1 (by omega) h.2 with h1 | h1
    · simp only [List.length_cons]
      omega
    · subst h1
      simp
      omega
theorem armsB_few {many : Int} {l : List S71} (h : armsB many l = true) : l.length ≤ 256 := by
  rcases armsR_few many l (-1) (by omega) h with h1 | h1
  · omega
  · simp [h1]
theorem spec_l18Arms_ev (b : S68) (many : Int) (h0 : 1 ≤ many) (h1 : many ≤ 1000) : Ev (fun k => spec_l18Arms.f k b.f0 b.f1 b.f2 many) (blockB many b) := by
  unfold spec_l18Arms.f blockB
  simp only [ev_ite]
  by_cases h6 : b.f1.length ≤ 256
  · rw [if_neg (by omega)]
    have hw : wrap64 (many - 1) = many - 1 := wrap_id (by omega) (by omega)
    obtain ⟨f0, l, f2⟩ := b
    simp only at h6 ⊢
    have key := down l.length (fun i => ∀ last : Int, (i = 0 → last = -1) → (0 < i → last = (rd_T71 l ((i - 1 : Nat) : Int)).f1) → Ev (fun k => spec_l18Arms.l0 k many (i : Nat) f0 l f2) (decide (-1 ≤ f0 ∧ f0 ≤ 39) && decide (0 ≤ f2 ∧ f2 ≤ many - 1) && armsR many last (l.drop i))) ?_ ?_ 0 (by omega) (-1) (fun _ => rfl) (by omega)
    · exact key
    · intro last _ _
      rw [ev_succ]
      simp only [spec_l18Arms.l0, ev_ite, spec_l1In_eq, Option.bind_some, ev_some, hw]
      rw [if_neg (by omega), List.drop_length]
      simp only [armsR, Bool.and_true]
      split <;> simp_all <;> (intros; omega)
    · intro i hi ih last hl0 hl1
      rw [ev_succ, drop_cons l z71 i hi]
      have hr : l.getD i z71 = rd_T71 l i := by simp [rd_T71]
      rw [hr]
      have ih2 := ih (rd_T71 l i).f1 (by omega) (fun _ => by rw [Nat.add_sub_cancel])
      simp only [spec_l18Arms.l0, spec_l1In_eq, Option.bind_some, ev_ite, ev_some, armsR, hw]
      rw [if_pos (by omega), if_pos (by omega), wrap_succ hi (by omega)]
      have hprev : 0 < i → (0 ≤ wrap64 ((i : Int) - 1) ∧ wrap64 ((i : Int) - 1) < l.length ∧ (rd_T71 l (wrap64 ((i : Int) - 1))).f1 = last) := by
        intro hp
        rw [wrap_id (x := (i : Int) - 1) (by omega) (by omega)]
        exact ⟨by omega, by omega, by rw [hl1 hp, show ((i : Int) - 1) = ((i - 1 : Nat) : Int) by omega]⟩
      generalize (l.drop (i + 1)) = T at *
      generalize rd_T71 l (i : Int) = a at *
      generalize hG : (fun k => spec_l18Arms.l0 k many ((i + 1 : Nat) : Int) f0 l f2) = G at *
      generalize (decide (-1 ≤ f0 ∧ f0 ≤ 39) && decide (0 ≤ f2 ∧ f2 ≤ many - 1)) = D at *
      by_cases c1 : 0 ≤ a.f0 ∧ a.f0 ≤ a.f1
      · rw [if_pos (by simpa using c1)]
        by_cases c3 : a.f1 > 255
        · rw [if_pos c3]; simp [show ¬ a.f1 ≤ 255 by omega]
        rw [if_neg c3]
        by_cases c4 : 0 ≤ a.f2 ∧ a.f2 ≤ many - 1
        · rw [if_pos (by simpa using c4)]
          have hend : (last < a.f0) → Ev G (D && (decide (0 ≤ a.f0) && decide (a.f0 ≤ a.f1) && decide (a.f1 ≤ 255) && decide (last < a.f0) && decide (0 ≤ a.f2 ∧ a.f2 ≤ many - 1) && armsR many a.f1 T)) := by
            intro h5
            refine ev_congr ih2 ?_
            simp [c4, c1, show a.f1 ≤ 255 by omega, h5]
          by_cases h00 : i = 0
          · rw [if_neg (by omega)]
            exact hend (by have := hl0 h00; omega)
          · obtain ⟨h1', h2', h3'⟩ := hprev (by omega)
            rw [if_pos (by omega), if_pos h1', if_pos h2', h3']
            by_cases c5 : a.f0 ≤ last
            · rw [if_pos c5]; simp [show ¬ last < a.f0 by omega]
            · rw [if_neg c5]
              exact hend (by omega)
        · rw [if_neg (by simpa using c4)]
          simp [c4]
      · rw [if_neg (by simpa using c1)]
        by_cases c2 : 0 ≤ a.f0
        · simp [c2, show ¬ a.f0 ≤ a.f1 by omega]
        · simp [c2]
  · rw [if_pos (by omega)]
    refine ev_some.2 ?_
    cases h : armsB many b.f1
    · simp
    · exact absurd (armsB_few h) h6
theorem spec_CodeOk_ev (l : List S68) (hl : l.length ≤ 1048576) : Ev (fun k => spec_CodeOk.f k l) (codeB l) := by
  have hloop : 1 ≤ l.length → l.length ≤ 1000 → Ev (fun k => spec_CodeOk.l0 k l.length 0 l) (l.all (blockB l.length)) := by
    intro h1 h2
    have key := ev_loop l.length (fun k i => spec_CodeOk.l0 k l.length (i : Nat) l) (fun i => (l.drop i).all (blockB l.length)) ?_ ?_ 0 (by omega)
    · simpa using key
    · rw [ev_succ]
      simp [spec_CodeOk.l0, ev_some]
    · intro i hi ih
      rw [ev_succ]
      simp only [spec_CodeOk.l0, ev_ite]
      rw [if_pos (by omega), if_pos (by omega), if_pos (by omega), ev_bind (spec_l18Arms_ev (rd_T68 l i) l.length (by omega) (by omega)), wrap_succ hi (by omega), all_drop l z68 _ i hi]
      simp only [ev_ite, ev_some]
      have : l.getD i z68 = rd_T68 l i := by simp [rd_T68]
      rw [this]
      cases h : blockB l.length (rd_T68 l i)
      · simp
      · simpa using ih
  have hj : ∀ b, (b = false → 1 ≤ l.length ∧ l.length ≤ 1000) → Ev (fun k => spec_CodeOk.j0 k l.length b l) (!b && l.all (blockB l.length)) := by
    intro b h6
    rw [ev_succ]
    simp only [spec_CodeOk.j0, ev_ite, ev_some]
    cases b
    · have := hloop (h6 rfl).1 (h6 rfl).2
      simpa using this
    · simp
  unfold spec_CodeOk.f codeB
  simp only [ev_ite]
  by_cases h1 : 1 ≤ l.length
  · rw [if_neg (by omega)]
    by_cases h2 : l.length ≤ 1000
    · rw [decide_eq_false (show ¬ (l.length : Int) > 1000 by omega)]
      exact ev_congr (hj _ (fun _ => ⟨h1, h2⟩)) (by simp [h1, h2])
    · rw [decide_eq_true (show (l.length : Int) > 1000 by omega)]
      exact ev_congr (hj _ (by simp)) (by simp [h2])
  · rw [if_pos (by omega)]
    exact ev_congr (hj _ (by simp)) (by simp [h1])
theorem zA : (⟨#[115]⟩ : ByteArray).size = 1 := rfl
theorem zB : (⟨#[58, 10]⟩ : ByteArray).size = 2 := rfl
theorem zC : (⟨#[32, 32, 97, 99, 99, 101, 112, 116, 32]⟩ : ByteArray).size = 9 := rfl
theorem zD : (⟨#[10]⟩ : ByteArray).size = 1 := rfl
theorem zE : (⟨#[32, 32, 111, 110, 32]⟩ : ByteArray).size = 5 := rfl
theorem zF : (⟨#[32]⟩ : ByteArray).size = 1 := rfl
theorem zG : (⟨#[32, 115]⟩ : ByteArray).size = 2 := rfl
theorem zH : (⟨#[32, 32, 101, 108, 115, 101, 32, 115]⟩ : ByteArray).size = 8 := rfl
def headT (i : Int) : ByteArray := (⟨#[115]⟩ ++ dec i) ++ ⟨#[58, 10]⟩
def accT (a : Int) : ByteArray := (⟨#[32, 32, 97, 99, 99, 101, 112, 116, 32]⟩ ++ dec a) ++ ⟨#[10]⟩
def armT (x : S71) : ByteArray := ((((((⟨#[32, 32, 111, 110, 32]⟩ ++ dec x.f0) ++ ⟨#[32]⟩) ++ dec x.f1) ++ ⟨#[32, 115]⟩) ++ dec x.f2) ++ ⟨#[10]⟩)
def elseT (e : Int) : ByteArray := (⟨#[32, 32, 101, 108, 115, 101, 32, 115]⟩ ++ dec e) ++ ⟨#[10]⟩
def armsT (s : ByteArray) (l : List S71) : Nat → ByteArray
  | 0 => s
  | j + 1 => armsT s l j ++ armT (rd_T71 l (j : Int))
def openT (s : ByteArray) (i : Int) (a : Int) : ByteArray := if 0 ≤ a then (s ++ headT i) ++ accT a else s ++ headT i
def blockT (s : ByteArray) (i : Int) (b : S68) : ByteArray := armsT (openT s i b.f0) b.f1 b.f1.length ++ elseT b.f2
def codeT (l : List S68) : Nat → ByteArray
  | 0 => ⟨#[]⟩
  | i + 1 => blockT (codeT l i) (i : Int) (rd_T68 l (i : Int))
def ArmR (x : S71) : Prop := (0 ≤ x.f0 ∧ x.f0 < 1000) ∧ (0 ≤ x.f1 ∧ x.f1 < 1000) ∧ (0 ≤ x.f2 ∧ x.f2 < 1000)
def BlockR (b : S68) : Prop := (-1 ≤ b.f0 ∧ b.f0 < 1000) ∧ (0 ≤ b.f2 ∧ b.f2 < 1000) ∧ b.f1.length ≤ 256 ∧ ∀ x ∈ b.f1, ArmR x
structure CodeR (l : List S68) : Prop where
  few : l.length ≤ 1000
  each : ∀ b ∈ l, BlockR b
theorem headT_size (i : Int) (h0 : 0 ≤ i) (h1 : i < 10000) : (headT i).size ≤ 7 := by
  have := dec_few i h0 h1
  simp only [headT, ByteArray.size_append]
  show 1 + _ + 2 ≤ 7
  omega
theorem accT_size (a : Int) (h0 : 0 ≤ a) (h1 : a < 10000) : (accT a).size ≤ 14 := by
  have := dec_few a h0 h1
  simp only [accT, ByteArray.size_append]
  show 9 + _ + 1 ≤ 14
  omega
theorem elseT_size (a : Int) (h0 : 0 ≤ a) (h1 : a < 10000) : (elseT a).size ≤ 13 := by
  have := dec_few a h0 h1
  simp only [elseT, ByteArray.size_append]
  show 8 + _ + 1 ≤ 13
  omega
theorem armT_size (x : S71) (h : ArmR x) : (armT x).size ≤ 21 := by
  have h0 := dec_few x.f0 h.1.1 (by have := h.1.2; omega)
  have h1 := dec_few x.f1 h.2.1.1 (by have := h.2.1.2; omega)
  have h2 := dec_few x.f2 h.2.2.1 (by have := h.2.2.2; omega)
  simp only [armT, ByteArray.size_append]
  show 5 + _ + 1 + _ + 2 + _ + 1 ≤ 21
  omega
theorem rdA_mem {l : List S71} {i : Nat} (h : i < l.length) : rd_T71 l (i : Int) ∈ l := by
  unfold rd_T71
  rw [Int.toNat_natCast, List.getD_eq_getElem?_getD, List.getElem?_eq_getElem h]
  exact List.getElem_mem _
theorem rdB_mem {l : List S68} {i : Nat} (h : i < l.length) : rd_T68 l (i : Int) ∈ l := by
  unfold rd_T68
  rw [Int.toNat_natCast, List.getD_eq_getElem?_getD, List.getElem?_eq_getElem h]
  exact List.getElem_mem _
theorem armsT_size (s : ByteArray) (l : List S71) (h : ∀ x ∈ l, ArmR x) : ∀ j, j ≤ l.length → (armsT s l j).size ≤ s.size + 21 * j
  | 0, _ => by simp [armsT]
  | j + 1, hj => by
    have h1 := armsT_size s l h j (by omega)
    have h2 := armT_size _ (h _ (rdA_mem (l := l) (i := j) (by omega)))
    simp only [armsT, ByteArray.size_append]
    omega
theorem openT_size (s : ByteArray) (i a : Int) (h0 : 0 ≤ i) (h1 : i < 10000) (h2 : a < 10000) : (openT s i a).size ≤ s.size + 21 := by
  have e1 := headT_size i h0 h1
  unfold openT
  split
  · rename_i h
    have e2 := accT_size a h h2
    simp only [ByteArray.size_append]
    omega
  · simp only [ByteArray.size_append]
    omega
theorem blockT_size (s : ByteArray) (i : Int) (b : S68) (h0 : 0 ≤ i) (h1 : i < 10000) (h : BlockR b) : (blockT s i b).size ≤ s.size + 6000 := by
  have e1 := openT_size s i b.f0 h0 h1 (by have := h.1.2; omega)
  have e2 := armsT_size (openT s i b.f0) b.f1 h.2.2.2 b.f1.length (Nat.le_refl _)
  have e3 := elseT_size b.f2 h.2.1.1 (by have := h.2.1.2; omega)
  have e4 := h.2.2.1
  simp only [blockT, ByteArray.size_append]
  omega
theorem codeT_size (l : List S68) (h : CodeR l) : ∀ i, i ≤ l.length → (codeT l i).size ≤ 6000 * i
  | 0, _ => by simp [codeT, ByteArray.size]
  | i + 1, hi => by
    have h1 := codeT_size l h i (by omega)
    have h2 := blockT_size (codeT l i) (i : Int) _ (by omega) (by have := h.few; omega) (h.each _ (rdB_mem (l := l) (i := i) (by omega)))
    simp only [codeT]
    omega
theorem blockT_grows (s : ByteArray) (i : Int) (b : S68) : s.size ≤ (blockT s i b).size := by
  have h : ∀ j, (openT s i b.f0).size ≤ (armsT (openT s i b.f0) b.f1 j).size := fun j => by
    induction j with
    | zero => exact Nat.le_refl _
    | succ j ih => simp only [armsT, ByteArray.size_append]; omega
  have h1 := h b.f1.length
  have h2 : s.size ≤ (openT s i b.f0).size := by
    unfold openT
    split <;> simp only [ByteArray.size_append] <;> omega
  simp only [blockT, ByteArray.size_append]
  omega
theorem codeT_grows (l : List S68) (i : Nat) : ∀ d, (codeT l i).size ≤ (codeT l (i + d)).size
  | 0 => Nat.le_refl _
  | d + 1 => Nat.le_trans (codeT_grows l i d) (blockT_grows _ _ _)
theorem armsR_each (many : Int) (hm : many ≤ 1000) : ∀ (l : List S71) (last : Int), armsR many last l = true → ∀ x ∈ l, ArmR x
  | [], _, _, x, hx => by simp at hx
  | a :: r, last, h, x, hx => by
    simp only [armsR, Bool.and_eq_true, decide_eq_true_eq] at h
    rcases List.mem_cons.1 hx with rfl | hx
    · exact ⟨⟨by omega, by omega⟩, ⟨by omega, by omega⟩, ⟨by omega, by omega⟩⟩
    · exact armsR_each many hm r a.f1 h.2 x hx
theorem codeR_of {l : List S68} (h : codeB l = true) : CodeR l := by
  unfold codeB at h
  simp only [Bool.and_eq_true, decide_eq_true_eq, List.all_eq_true] at h
  refine ⟨h.1.2, fun b hb => ?_⟩
  have h2 := h.2 b hb
  unfold blockB at h2
  simp only [Bool.and_eq_true, decide_eq_true_eq] at h2
  have h3 := h.1.2
  exact ⟨⟨h2.1.1.1, by omega⟩, ⟨h2.1.2.1, by omega⟩, armsB_few h2.2, armsR_each _ (by omega) _ _ h2.2⟩
end Go.Proofs.YtlecpdpdcocibaaDoor.P
namespace Go.Proofs.YtlecpdpdcocibaaDoor.P
open Go.RowKit Go.Shelf Go.Proofs.YtlecpdpdcocibaaDoorW.PrintWords Go.Proofs.YtlecpdpdcocibaaDoorW.PrintLast Go.Proofs.YtlecpdpdcocibaaDoorW.PrintMore Go.Proofs.YtlecpdpdcocibaaDoorEv
set_option linter.unusedVariables false
set_option linter.unusedSimpArgs false
section
variable {w W : World} {gr t : Nat} {x0 x1 x2 a b c : Value}
theorem fin3_ (BR : W.heap[gr]? = some (.cells #[x0, x1, x2] t (0, 0))) : (((W.setCell ⟨gr, 0, none⟩ a).setCell ⟨gr, 1, none⟩ b).setCell ⟨gr, 2, none⟩ c).heap[gr]? = some (.cells #[a, b, c] t (0, 0)) := blk_put (cs := #[a, b, x2]) (blk_put (cs := #[a, x1, x2]) (blk_put (cs := #[x0, x1, x2]) BR 0 _ rfl) 1 _ rfl) 2 _ rfl
theorem fin3R_ {α : Type} {d : Kd α} {T base : Nat} {v : Value} {xs : List α} {ok : Nat → Prop} (h : Kd.R d T W base ok v xs) (hf : ∀ k, ok k → k ≠ gr) : Kd.R d T (((W.setCell ⟨gr, 0, none⟩ a).setCell ⟨gr, 1, none⟩ b).setCell ⟨gr, 2, none⟩ c) base (fun _ => True) v xs := Kd.R_mono (Kd.R_far (p := ⟨gr, 2, none⟩) (Kd.R_far (p := ⟨gr, 1, none⟩) (Kd.R_far (p := ⟨gr, 0, none⟩) h hf a) hf b) hf c) (fun _ _ => trivial)
theorem fin3S_ {α : Type} {d : Kd α} {T base : Nat} {v : Value} {xs : List α} {ok : Nat → Prop} (h : Kd.S d T W base ok v xs) (hf : ∀ k, ok k → k ≠ gr) : Kd.S d T (((W.setCell ⟨gr, 0, none⟩ a).setCell ⟨gr, 1, none⟩ b).setCell ⟨gr, 2, none⟩ c) base (fun _ => True) v xs := Kd.S_mono (Kd.S_far (p := ⟨gr, 2, none⟩) (Kd.S_far (p := ⟨gr, 1, none⟩) (Kd.S_far (p := ⟨gr, 0, none⟩) h hf a) hf b) hf c) (fun _ _ => trivial)
theorem finO_ {g2 t2 : Nat} {y0 y1 y2 : Value} (BR : W.heap[g2]? = some (.cells #[y0, y1, y2] t2 (0, 0))) (hn : g2 ≠ gr) : (((W.setCell ⟨gr, 0, none⟩ a).setCell ⟨gr, 1, none⟩ b).setCell ⟨gr, 2, none⟩ c).heap[g2]? = some (.cells #[y0, y1, y2] t2 (0, 0)) := blk_far (blk_far (blk_far BR hn _) hn _) hn _
theorem finB_ (h : Below w.heap.size w W) (hg : w.heap.size ≤ gr) : Below w.heap.size w (((W.setCell ⟨gr, 0, none⟩ a).setCell ⟨gr, 1, none⟩ b).setCell ⟨gr, 2, none⟩ c) := below_set (below_set (below_set h hg) hg) hg
end
end Go.Proofs.YtlecpdpdcocibaaDoor.P
namespace Go.Proofs.YtlecpdpdcocibaaDoor.P
open Go.RowKit Go.Proofs.YtlecpdpdcocibaaDoorW.PrintWords Go.Proofs.YtlecpdpdcocibaaDoorW.PrintLast Go.Proofs.YtlecpdpdcocibaaDoorW.PrintMore Go.Proofs.YtlecpdpdcocibaaDoorEv
set_option linter.unusedVariables false
set_option linter.unusedSimpArgs false
theorem BW_new (w : World) (g : Nat) (h0 : w.heap.size ≤ g) (W : World) (hg : W.heap[g]? = some (.cells #[.pointer none, .slice none 0 0] 75 (0, 0))) : BW w W g ⟨#[]⟩ := ⟨h0, _, _, .inl rfl, hg, own_nil _ _ _ _⟩
theorem BW.set {w0 w : World} {g k i : Nat} {s : ByteArray} {cs : Array Value} {t : TypeId} (h : BW w0 w g s) (hk : w.heap[k]? = some (.cells cs t (0, 0))) (ht : 5 ≠ t) (hne : g ≠ k) (u : Value) : BW w0 (w.setCell ⟨k, i, none⟩ u) g s := by
  obtain ⟨h0, p, v, hp, hg, ho⟩ := h
  exact ⟨h0, p, v, hp, blk_far hg hne u, own_setCell (p := ⟨k, i, none⟩) ho (own_ne ho hk ht) u⟩
theorem BW.set3 {w0 w : World} {g k : Nat} {s : ByteArray} {x0 x1 x2 a b c : Value} {t : TypeId} (h : BW w0 w g s) (hk : w.heap[k]? = some (.cells #[x0, x1, x2] t (0, 0))) (ht : 5 ≠ t) (hne : g ≠ k) : BW w0 (((w.setCell ⟨k, 0, none⟩ a).setCell ⟨k, 1, none⟩ b).setCell ⟨k, 2, none⟩ c) g s :=
  ((h.set hk ht hne a).set (blk_put (cs' := #[a, x1, x2]) hk 0 _ rfl) ht hne b).set (blk_put (cs' := #[a, b, x2]) (blk_put (cs' := #[a, x1, x2]) hk 0 _ rfl) 1 _ rfl) ht hne c
theorem WriteCodeI_some (A : Option Addr) (c : Nat) (l : List S68) (hyes : codeB l = true) (w : World) (ht : Tab w) (hr : Kd.C k68 w A l.length l) (hc : l.length ≤ c) :
    Calls Tryd.prog 12 #[.agg #[.slice A l.length c]] w fun e w' => e = .returned (.string (if (codeT l l.length).size ≤ 100000 then codeT l l.length else ⟨#[]⟩)) ∧ Below w.heap.size w w' := by
  have hR := codeR_of hyes
  have hpos : 1 ≤ l.length := by unfold codeB at hyes; simp only [Bool.and_eq_true, decide_eq_true_eq] at hyes; exact hyes.1.1
  obtain ⟨adA, _, _, rfl, _⟩ := at_T68 hr 0 (by omega) (by omega)
  have hrows := hR.few
  have HCR := q_ hR
  have HR := q_ hr; have HC := q_ hc; have HB := q_ (Below.refl w.heap.size w); have HT := q_ ht; have HY := q_ hyes
  have T0 : J0 True := ⟨trivial⟩; have T1 : J0 True := ⟨trivial⟩; have T2 : J0 True := ⟨trivial⟩
  obtain ⟨R, hRR⟩ : ∃ R, R = (if (codeT l l.length).size ≤ 100000 then codeT l l.length else (⟨#[]⟩ : ByteArray)) := ⟨_, rfl⟩
  rw [← hRR]
  have HRR := q_ hRR
  clear hr hc ht hyes hR hRR
  go_enter Tryd.func12, Tryd.ntmps12
  go_upto_region 4 with (first
    | ((with_reducible refine gate_dst (N := 1) rfl ?_); clear T0; refine bx_ 1 #[.slice (some adA) l.length c] 29 ?_; intro g1 hg w1 hbox hb; have BK1 := q_ hbox; have G1 := ge_ hg HB; replace HB := sb_ HB hb; clear hb hbox hg; obtain ⟨hz0, hf0⟩ := d1_ BK1)
    | (go_at_call 43; (with_reducible refine (CodeOk_hand (some adA) c l _ (Kd.C_below HR.o (be_ HB.o)) HC.o).mono ?_); rw [HY.o]; rintro e w3 ⟨rfl, hb⟩; replace BK1 := lb_ BK1 hb; replace HB := sb_ HB hb; clear hb hz0 hf0)
    | ((with_reducible refine gate_dst (N := 3) rfl ?_); clear T1; refine bx_ 3 #[.pointer none, .slice none 0 0] 75 ?_; intro gb hg w4 hbox hb; have BB := q_ hbox; have GB := ge_ hg HB; have N1 := nl_ hg BK1; replace BK1 := lb_ BK1 hb; replace HB := sb_ HB hb; clear hb hbox hg; have hq0 := (blk_cell BB.o 0).trans rfl; have hq1 := (blk_cell BB.o 1).trans rfl; have hqf0 := blk_frozen BB.o 0; have hqf1 := blk_frozen BB.o 1))
  have BW0 : J0 (BW w ((w4.setCell ⟨gb, 0, none⟩ (.pointer none)).setCell ⟨gb, 1, none⟩ (.slice none 0 0)) gb ⟨#[]⟩) := ⟨BW_new w gb GB.o _ (blk_put (blk_put BB.o 0 _ rfl) 1 _ rfl)⟩
  replace HB := q_ (below_set (v := .slice none 0 0) (j := 1) (below_set (v := .pointer none) (j := 0) HB.o GB.o) GB.o)
  have BK1b : J0 (((w4.setCell ⟨gb, 0, none⟩ (.pointer none)).setCell ⟨gb, 1, none⟩ (.slice none 0 0)).heap[g1]? = some (.cells #[.slice (some adA) l.length c] 29)) := ⟨blk_far (blk_far BK1.o N1.o _) N1.o _⟩
  clear BB hq0 hq1 hqf0 hqf1 BK1
  generalize (w4.setCell ⟨gb, 0, none⟩ (.pointer none)).setCell ⟨gb, 1, none⟩ (.slice none 0 0) = w5 at *
  have BK1 := BK1b; clear BK1b
  obtain ⟨hz0, hf0⟩ := d1_ BK1
  go_wp2_with fail
  go_loopg [15] l.length (fun gg v15 wr => ∃ kk : Nat, v15 = .int .i64 kk ∧ kk ≤ l.length ∧ l.length - kk ≤ gg ∧ J0 (BW w wr gb (codeT l kk)) ∧ J0 (Below w.heap.size w wr))
  case atStart => exact ⟨0, rfl, by omega, by omega, BW0, HB⟩
  case round =>
    clear BW0 HB BK1 hz0 hf0
    obtain ⟨kk, rfl, hkk, hgg, BW0, HB⟩ := hrel
    by_cases hlt : kk < l.length
    · have hltz : decide ((kk : Int) < (l.length : Int)) = true := decide_eq_true (by omega)
      have hs0 : (0 : Int) ≤ (kk : Int) := by omega
      have hs1 : (kk : Int) < (l.length : Int) := by omega
      have HBR := q_ (HCR.o.each _ (rdB_mem hlt))
      have HSZ := q_ (codeT_size l HCR.o kk (by omega))
      have hsc : codeT l (kk + 1) = blockT (codeT l kk) (kk : Int) (rd_T68 l (kk : Int)) := rfl
      obtain ⟨ad, A1, c1, e, hx0, hx1, hx2, hl1, hi1⟩ := at_T68 HR.o (kk : Int) hs0 hs1
      cases e
      rw [Int.toNat_natCast] at hx0 hx1 hx2
      generalize rd_T68 l (kk : Int) = b at *
      generalize hcu : codeT l (kk + 1) = code2 at *
      generalize codeT l kk = code at *
      have HCU := q_ hcu; have HSC := q_ hsc; have HRA := q_ hi1; have HCA := q_ hl1
      clear hcu hsc hi1 hl1
      replace hx0 := mv_ HB.o hx0; replace hx1 := mv_ HB.o hx1; replace hx2 := mv_ HB.o hx2
      have p1 := eq_true hs0; have q1 := eq_true hs1
      have TR : J0 True := ⟨trivial⟩
      go_upto_region 7 with ((with_reducible refine gate_dst (N := 5) rfl ?_); clear TR; refine bx_ 5 #[.int .i64 0, .slice none 0 0, .int .i64 0] 68 ?_; intro g5 hg w6 hbox hb; have B5 := q_ hbox; have G5 := ge_ hg HB; have N5 : J0 (gb ≠ g5) := ⟨by obtain ⟨_, p, v, _, hgb, _⟩ := BW0.o; exact hg ▸ Nat.ne_of_lt (blk_lt hgb)⟩; replace BW0 := q_ (BW0.o.below hb); replace HB := sb_ HB hb; clear hb hbox hg hx0 hx1 hx2; obtain ⟨hq0, hq1, hq2, hqf0, hqf1, hqf2⟩ := d3_ B5)
      have B5b := q_ (fin3_ (a := .int .i64 b.f0) (b := .slice A1 b.f1.length c1) (c := .int .i64 b.f2) B5.o)
      replace BW0 := q_ (BW0.o.set3 (a := .int .i64 b.f0) (b := .slice A1 b.f1.length c1) (c := .int .i64 b.f2) B5.o (by decide) N5.o)
      replace HB := q_ (finB_ (a := .int .i64 b.f0) (b := .slice A1 b.f1.length c1) (c := .int .i64 b.f2) HB.o G5.o)
      clear B5 hq0 hq1 hq2 hqf0 hqf1 hqf2
      generalize ((w6.setCell ⟨g5, 0, none⟩ (.int .i64 b.f0)).setCell ⟨g5, 1, none⟩ (.slice A1 b.f1.length c1)).setCell ⟨g5, 2, none⟩ (.int .i64 b.f2) = w7 at *
      have B5 := B5b; clear B5b
      have hd := dec_few (kk : Int) (by omega) (by omega)
      have hsz := HSZ.o
      have hht : headT (kk : Int) = (⟨#[115]⟩ ++ dec (kk : Int)) ++ ⟨#[58, 10]⟩ := rfl
      generalize hdk : dec (kk : Int) = dk at *
      have HHT := q_ hht; have HDK := q_ hdk; clear hht hdk
      have a1 : ((⟨#[115]⟩ : ByteArray).size + dk.size ≤ 9223372036854775807) = True := eq_true (by show 1 + dk.size ≤ _; omega)
      have a2 : (((⟨#[115]⟩ : ByteArray) ++ dk).size + (⟨#[58, 10]⟩ : ByteArray).size ≤ 9223372036854775807) = True := eq_true (by rw [ByteArray.size_append]; show 1 + dk.size + 2 ≤ _; omega)
      have TS : J0 True := ⟨trivial⟩
      go_upto_region 8 with (first
        | (go_at_call 45; refine (text_ (kk : Int) (by omega) (by omega) _ (HT.o.below (be_ HB.o))).mono ?_; rw [HDK.o]; rintro en w8 ⟨rfl, hb⟩; replace BW0 := q_ (BW0.o.below hb); replace B5 := lb_ B5 hb; replace HB := sb_ HB hb; clear hb)
        | (go_at_call 44; clear TS; (with_reducible refine (WriteString_ w gb code _ _ BW0.o HB.o ?wl).mono ?_); (case wl => simp only [ByteArray.size_append, zA, zB]; omega); rintro en w9 ⟨⟨x_, y_, rfl⟩, hbw, hb, hkt⟩; replace BW0 := q_ hbw; replace B5 := q_ (hkt.2 _ _ _ (by decide) N5.o.symm B5.o); replace HB := q_ hb; clear hbw hb hkt; obtain ⟨hq0, hq1, hq2, hqf0, hqf1, hqf2⟩ := d3_ B5))
      have HSO := q_ (openT_size code (kk : Int) b.f0 (by omega) (by omega) (by have := HBR.o.1.2; omega))
      by_cases hacc : 0 ≤ b.f0
      · have dg : decide (b.f0 ≥ 0) = true := decide_eq_true hacc
        have hso : openT code (kk : Int) b.f0 = (code ++ headT (kk : Int)) ++ accT b.f0 := if_pos hacc
        have hda := dec_few b.f0 hacc (by have := HBR.o.1.2; omega)
        have hta : accT b.f0 = (⟨#[32, 32, 97, 99, 99, 101, 112, 116, 32]⟩ ++ dec b.f0) ++ ⟨#[10]⟩ := rfl
        obtain ⟨s1, hs1_⟩ : ∃ s1, s1 = openT code (kk : Int) b.f0 := ⟨_, rfl⟩
        generalize hka : dec b.f0 = da at *
        have HTA := q_ hta; have HKA := q_ hka; have HSOP := q_ hso; have HS1 := q_ hs1_; clear hta hka hso hs1_
        have f1 : ((⟨#[32, 32, 97, 99, 99, 101, 112, 116, 32]⟩ : ByteArray).size + da.size ≤ 9223372036854775807) = True := eq_true (by rw [zC]; omega)
        have f2 : ((((⟨#[32, 32, 97, 99, 99, 101, 112, 116, 32]⟩ : ByteArray) ++ da).size + (⟨#[10]⟩ : ByteArray).size) ≤ 9223372036854775807) = True := eq_true (by simp only [ByteArray.size_append, zC, zD]; omega)
        go_upto_region 10 with (first
          | (go_at_call 45; refine (text_ b.f0 (by omega) (by have := HBR.o.1.2; omega) _ (HT.o.below (be_ HB.o))).mono ?_; rw [HKA.o]; rintro en w8a ⟨rfl, hb⟩; replace BW0 := q_ (BW0.o.below hb); replace B5 := lb_ B5 hb; replace HB := sb_ HB hb; clear hb)
          | (go_at_call 44; (with_reducible refine (WriteString_ w gb _ _ _ BW0.o HB.o ?wl).mono ?_); (case wl => simp only [ByteArray.size_append, zA, zB, zC, zD]; omega); rintro en w9a ⟨⟨x_, y_, rfl⟩, hbw, hb, hkt⟩; replace BW0 := q_ hbw; replace B5 := q_ (hkt.2 _ _ _ (by decide) N5.o.symm B5.o); replace HB := q_ hb; clear hbw hb hkt hq0 hq1 hq2 hqf0 hqf1 hqf2; obtain ⟨hq0, hq1, hq2, hqf0, hqf1, hqf2⟩ := d3_ B5))
        replace BW0 : J0 (BW w _ gb s1) := ⟨by rw [HS1.o, HSOP.o, HHT.o, HTA.o]; exact BW0.o⟩
        have hs1z : s1.size ≤ 6000 * kk + 21 := by have := HSO.o; rw [HS1.o]; omega
        clear f1 f2 a1 a2 dg hacc
        go_wp2_with fail
        go_loopg [37] b.f1.length (fun gg v37 wr => ∃ j : Nat, v37 = .int .i64 j ∧ j ≤ b.f1.length ∧ b.f1.length - j ≤ gg ∧ J0 (BW w wr gb (armsT s1 b.f1 j)) ∧ J0 (wr.heap[g5]? = some (.cells #[.int .i64 b.f0, .slice A1 b.f1.length c1, .int .i64 b.f2] 68)) ∧ J0 (Below w.heap.size w wr))
        case atStart => exact ⟨0, rfl, by omega, by omega, BW0, B5, HB⟩
        case round =>
          clear BW0 B5 HB hq0 hq1 hq2 hqf0 hqf1 hqf2
          obtain ⟨j, rfl, hj, hgj, BW0, B5, HB⟩ := hrel
          by_cases hlj : j < b.f1.length
          · have hltz : decide ((j : Int) < (b.f1.length : Int)) = true := decide_eq_true (by omega)
            have hj0 : (0 : Int) ≤ (j : Int) := by omega
            have hj1 : (j : Int) < (b.f1.length : Int) := by omega
            have HAR := q_ (HBR.o.2.2.2 _ (rdA_mem hlj))
            have HSJ := q_ (armsT_size s1 b.f1 HBR.o.2.2.2 j (by omega))
            have hsc : armsT s1 b.f1 (j + 1) = armsT s1 b.f1 j ++ armT (rd_T71 b.f1 (j : Int)) := rfl
            obtain ⟨adr, e, hx0, hx1, hx2⟩ := at_T71 HRA.o (j : Int) hj0 hj1
            cases e
            rw [Int.toNat_natCast] at hx0 hx1 hx2
            generalize rd_T71 b.f1 (j : Int) = x at *
            generalize hcu : armsT s1 b.f1 (j + 1) = sj2 at *
            generalize armsT s1 b.f1 j = sj at *
            have HCJ := q_ hcu; have HSCJ := q_ hsc
            clear hcu hsc
            replace hx0 := mv_ HB.o hx0; replace hx1 := mv_ HB.o hx1; replace hx2 := mv_ HB.o hx2
            have pj := eq_true hj0; have qj := eq_true hj1
            have TA : J0 True := ⟨trivial⟩
            go_upto_region 13 with ((with_reducible refine gate_dst (N := 7) rfl ?_); clear TA; refine bx_ 7 #[.int .i64 0, .int .i64 0, .int .i64 0] 71 ?_; intro g7 hg w10 hbox hb; have B7 := q_ hbox; have G7 := ge_ hg HB; have N7 : J0 (gb ≠ g7) := ⟨by obtain ⟨_, p, v, _, hgb, _⟩ := BW0.o; exact hg ▸ Nat.ne_of_lt (blk_lt hgb)⟩; have N75 := nl_ hg B5; replace BW0 := q_ (BW0.o.below hb); replace B5 := lb_ B5 hb; replace HB := sb_ HB hb; clear hb hbox hg hx0 hx1 hx2; obtain ⟨hq0, hq1, hq2, hqf0, hqf1, hqf2⟩ := d3_ B7)
            have B7b := q_ (fin3_ (a := .int .i64 x.f0) (b := .int .i64 x.f1) (c := .int .i64 x.f2) B7.o)
            have B5b := q_ (finO_ (a := .int .i64 x.f0) (b := .int .i64 x.f1) (c := .int .i64 x.f2) B5.o N75.o)
            replace BW0 := q_ (BW0.o.set3 (a := .int .i64 x.f0) (b := .int .i64 x.f1) (c := .int .i64 x.f2) B7.o (by decide) N7.o)
            replace HB := q_ (finB_ (a := .int .i64 x.f0) (b := .int .i64 x.f1) (c := .int .i64 x.f2) HB.o G7.o)
            clear B7 B5 hq0 hq1 hq2 hqf0 hqf1 hqf2
            generalize ((w10.setCell ⟨g7, 0, none⟩ (.int .i64 x.f0)).setCell ⟨g7, 1, none⟩ (.int .i64 x.f1)).setCell ⟨g7, 2, none⟩ (.int .i64 x.f2) = w11 at *
            have B7 := B7b; have B5 := B5b; clear B7b B5b
            obtain ⟨⟨ha0, ha0b⟩, ⟨ha1, ha1b⟩, ⟨ha2, ha2b⟩⟩ := HAR.o
            have hd0 := dec_few x.f0 ha0 (by omega); have hd1 := dec_few x.f1 ha1 (by omega); have hd2 := dec_few x.f2 ha2 (by omega)
            have hat : armT x = ((((((⟨#[32, 32, 111, 110, 32]⟩ ++ dec x.f0) ++ ⟨#[32]⟩) ++ dec x.f1) ++ ⟨#[32, 115]⟩) ++ dec x.f2) ++ ⟨#[10]⟩) := rfl
            have hsj := HSJ.o
            have hal := HBR.o.2.2.1
            generalize hk0 : dec x.f0 = d0 at *
            generalize hk1 : dec x.f1 = d1 at *
            generalize hk2 : dec x.f2 = d2 at *
            have HAT := q_ hat; have HK0 := q_ hk0; have HK1 := q_ hk1; have HK2 := q_ hk2; clear hat hk0 hk1 hk2
            have e1 : (9223372036854775807 < 5 + d0.size) = False := eq_false (by omega)
            have e2 : (9223372036854775807 < 5 + d0.size + 1) = False := eq_false (by omega)
            have e3 : (9223372036854775807 < 5 + d0.size + 1 + d1.size) = False := eq_false (by omega)
            have e4 : (9223372036854775807 < 5 + d0.size + 1 + d1.size + 2) = False := eq_false (by omega)
            have e5 : (9223372036854775807 < 5 + d0.size + 1 + d1.size + 2 + d2.size) = False := eq_false (by omega)
            have e6 : (9223372036854775807 < 5 + d0.size + 1 + d1.size + 2 + d2.size + 1) = False := eq_false (by omega)
            replace BW0 := q_ (BW0.o.below (below_drew1 (Below.refl _ _))); replace B5 := q_ (blk_drew B5.o); replace B7 := q_ (blk_drew B7.o); replace HB := q_ (below_drew1 HB.o)
            refine start_ (n := 16) (S := fun w' => w'.cell? ⟨g7, 0, none⟩ = some (.int .i64 x.f0) ∧ (w'.cell? ⟨g7, 1, none⟩ = some (.int .i64 x.f1) ∧ w'.cell? ⟨g7, 2, none⟩ = some (.int .i64 x.f2))) (ds := []) (bb 16 0) (by kernel_rfl) rfl rfl ⟨(blk_cell B7.o 0).trans rfl, (blk_cell B7.o 1).trans rfl, (blk_cell B7.o 2).trans rfl⟩ (fun hS => ?_)
            generalize World.drew _ = wd at BW0 B5 B7 HB hS ⊢
            refine pk_ 0 41 1 ?_; refine pk_ 5 46 33 ?_; refine pk_ 10 51 1057 ?_; refine tk_ 1 42 1059 hS ?_; refine tk_ 6 47 1123 hS ?_; refine tk_ 11 52 3171 hS ?_
            refine one_ (i := 2) (N := some 43) (bb 16 3175) rfl rfl (by kernel_rfl) (by decide) (fun K hK => ?_)
            refine gs_ Tryd.func45 #[.int .i64 x.f0] ?_
            (with_reducible refine (text_ x.f0 (by omega) (by omega) _ (HT.o.below HB.o)).mono ?_)
            rw [HK0.o]
            rintro en wt43 ⟨rfl, hb⟩
            refine ⟨_, rfl, ?_⟩
            replace BW0 := q_ (BW0.o.below hb); replace B5 := lb_ B5 hb; replace B7 := lb_ B7 hb; replace HB := sb_ HB hb; clear hb
            refine hK.out _ _ ⟨(blk_cell B7.o 0).trans rfl, (blk_cell B7.o 1).trans rfl, (blk_cell B7.o 2).trans rfl⟩ (fun hS => ?_)
            clear hK K
            refine no_ (some 43) ?_
            refine pk_ 3 44 3183 ?_; refine pk_ 4 45 3199 ?_
            refine one_ (i := 7) (N := some 48) (bb 16 3327) rfl rfl (by kernel_rfl) (by decide) (fun K hK => ?_)
            refine gs_ Tryd.func45 #[.int .i64 x.f1] ?_
            (with_reducible refine (text_ x.f1 (by omega) (by omega) _ (HT.o.below HB.o)).mono ?_)
            rw [HK1.o]
            rintro en wt48 ⟨rfl, hb⟩
            refine ⟨_, rfl, ?_⟩
            replace BW0 := q_ (BW0.o.below hb); replace B5 := lb_ B5 hb; replace B7 := lb_ B7 hb; replace HB := sb_ HB hb; clear hb
            refine hK.out _ _ ⟨(blk_cell B7.o 0).trans rfl, (blk_cell B7.o 1).trans rfl, (blk_cell B7.o 2).trans rfl⟩ (fun hS => ?_)
            clear hK K
            refine no_ (some 48) ?_
            refine pk_ 8 49 3583 ?_; refine pk_ 9 50 4095 ?_
            refine one_ (i := 12) (N := some 53) (bb 16 8191) rfl rfl (by kernel_rfl) (by decide) (fun K hK => ?_)
            refine gs_ Tryd.func45 #[.int .i64 x.f2] ?_
            (with_reducible refine (text_ x.f2 (by omega) (by omega) _ (HT.o.below HB.o)).mono ?_)
            rw [HK2.o]
            rintro en wt53 ⟨rfl, hb⟩
            refine ⟨_, rfl, ?_⟩
            replace BW0 := q_ (BW0.o.below hb); replace B5 := lb_ B5 hb; replace B7 := lb_ B7 hb; replace HB := sb_ HB hb; clear hb
            refine hK.out _ _ ⟨(blk_cell B7.o 0).trans rfl, (blk_cell B7.o 1).trans rfl, (blk_cell B7.o 2).trans rfl⟩ (fun hS => ?_)
            clear hK K
            refine no_ (some 53) ?_
            refine pk_ 13 54 16383 ?_; refine pk_ 14 55 32767 ?_
            refine one_ (i := 15) (N := some 56) (bb 16 65535) rfl rfl (by kernel_rfl) (by decide) (fun K hK => ?_)
            refine gs_ Tryd.func44 #[.pointer (some ⟨gb, 0, none⟩), .string (((((((⟨#[32, 32, 111, 110, 32]⟩ ++ d0) ++ ⟨#[32]⟩) ++ d1) ++ ⟨#[32, 115]⟩) ++ d2) ++ ⟨#[10]⟩))] ?_
            (with_reducible refine (WriteString_ w gb sj _ _ BW0.o HB.o ?wl).mono ?_)
            (case wl => simp only [ByteArray.size_append, zE, zF, zG, zD]; omega)
            rintro en w12 ⟨⟨x_, y_, rfl⟩, hbw, hb, hkt⟩
            refine ⟨_, rfl, ?_⟩
            replace BW0 := q_ hbw; replace B5 := q_ (hkt.2 _ _ _ (by decide) N5.o.symm B5.o); replace B7 := q_ (hkt.2 _ _ _ (by decide) N7.o.symm B7.o); replace HB := q_ hb
            clear hbw hb hkt
            refine hK.out _ _ ⟨(blk_cell B7.o 0).trans rfl, (blk_cell B7.o 1).trans rfl, (blk_cell B7.o 2).trans rfl⟩ (fun hS => ?_)
            clear hK K
            refine no_ (some 56) ?_
            refine done_ (by kernel_rfl) ?_
            clear hS B7 e1 e2 e3 e4 e5 e6
            go_wp2_with fail
            go_roundg (b.f1.length - (j + 1))
            case measure => omega
            case rel => exact ⟨j + 1, by go_num, by omega, by omega, ⟨by rw [HCJ.o, HSCJ.o, HAT.o]; exact BW0.o⟩, B5, HB⟩
          · have ej : j = b.f1.length := by omega
            subst ej
            have hltz : decide ((b.f1.length : Int) < (b.f1.length : Int)) = false := decide_eq_false (by omega)
            clear hgj hj hlj
            have hsj := armsT_size s1 b.f1 HBR.o.2.2.2 b.f1.length (Nat.le_refl _)
            have hbt : blockT code (kk : Int) b = armsT s1 b.f1 b.f1.length ++ elseT b.f2 := by rw [HS1.o]; rfl
            generalize armsT s1 b.f1 b.f1.length = sj at *
            obtain ⟨hq0, hq1, hq2, hqf0, hqf1, hqf2⟩ := d3_ B5
            have hal := HBR.o.2.2.1
            obtain ⟨he0, he1⟩ := HBR.o.2.1
            have hde := dec_few b.f2 he0 (by omega)
            have het : elseT b.f2 = (⟨#[32, 32, 101, 108, 115, 101, 32, 115]⟩ ++ dec b.f2) ++ ⟨#[10]⟩ := rfl
            generalize hke : dec b.f2 = de at *
            have HET := q_ het; have HKE := q_ hke; have HBT := q_ hbt; clear het hke hbt
            have e1 : ((⟨#[32, 32, 101, 108, 115, 101, 32, 115]⟩ : ByteArray).size + de.size ≤ 9223372036854775807) = True := eq_true (by rw [zH]; omega)
            have e2 : ((((⟨#[32, 32, 101, 108, 115, 101, 32, 115]⟩ : ByteArray) ++ de).size + (⟨#[10]⟩ : ByteArray).size) ≤ 9223372036854775807) = True := eq_true (by simp only [ByteArray.size_append, zH, zD]; omega)
            go_wp2_with (first
              | (go_at_call 45; refine (text_ b.f2 (by omega) (by omega) _ (HT.o.below (be_ HB.o))).mono ?_; rw [HKE.o]; rintro en w13 ⟨rfl, hb⟩; replace BW0 := q_ (BW0.o.below hb); replace B5 := lb_ B5 hb; replace HB := sb_ HB hb; clear hb)
              | (go_at_call 44; (with_reducible refine (WriteString_ w gb sj _ _ BW0.o HB.o ?wl).mono ?_); (case wl => simp only [ByteArray.size_append, zH, zD]; omega); rintro en w14 ⟨⟨x_, y_, rfl⟩, hbw, hb, hkt⟩; replace BW0 := q_ hbw; replace HB := q_ hb; clear hbw hb hkt))
            go_roundg (l.length - (kk + 1))
            case measure => omega
            case rel => exact ⟨kk + 1, by go_num, by omega, by omega, ⟨by rw [HCU.o, HSC.o, HBT.o, HET.o]; exact BW0.o⟩, HB⟩
      · have dg : decide (b.f0 ≥ 0) = false := decide_eq_false hacc
        have hso : openT code (kk : Int) b.f0 = code ++ headT (kk : Int) := if_neg hacc
        obtain ⟨s1, hs1_⟩ : ∃ s1, s1 = openT code (kk : Int) b.f0 := ⟨_, rfl⟩
        have HSOP := q_ hso; have HS1 := q_ hs1_; clear hso hs1_
        go_upto_region 10 with fail
        replace BW0 : J0 (BW w _ gb s1) := ⟨by rw [HS1.o, HSOP.o, HHT.o]; exact BW0.o⟩
        have hs1z : s1.size ≤ 6000 * kk + 21 := by have := HSO.o; rw [HS1.o]; omega
        clear a1 a2 dg hacc
        go_wp2_with fail
        go_loopg [37] b.f1.length (fun gg v37 wr => ∃ j : Nat, v37 = .int .i64 j ∧ j ≤ b.f1.length ∧ b.f1.length - j ≤ gg ∧ J0 (BW w wr gb (armsT s1 b.f1 j)) ∧ J0 (wr.heap[g5]? = some (.cells #[.int .i64 b.f0, .slice A1 b.f1.length c1, .int .i64 b.f2] 68)) ∧ J0 (Below w.heap.size w wr))
        case atStart => exact ⟨0, rfl, by omega, by omega, BW0, B5, HB⟩
        case round =>
          clear BW0 B5 HB hq0 hq1 hq2 hqf0 hqf1 hqf2
          obtain ⟨j, rfl, hj, hgj, BW0, B5, HB⟩ := hrel
          by_cases hlj : j < b.f1.length
          · have hltz : decide ((j : Int) < (b.f1.length : Int)) = true := decide_eq_true (by omega)
            have hj0 : (0 : Int) ≤ (j : Int) := by omega
            have hj1 : (j : Int) < (b.f1.length : Int) := by omega
            have HAR := q_ (HBR.o.2.2.2 _ (rdA_mem hlj))
            have HSJ := q_ (armsT_size s1 b.f1 HBR.o.2.2.2 j (by omega))
            have hsc : armsT s1 b.f1 (j + 1) = armsT s1 b.f1 j ++ armT (rd_T71 b.f1 (j : Int)) := rfl
            obtain ⟨adr, e, hx0, hx1, hx2⟩ := at_T71 HRA.o (j : Int) hj0 hj1
            cases e
            rw [Int.toNat_natCast] at hx0 hx1 hx2
            generalize rd_T71 b.f1 (j : Int) = x at *
            generalize hcu : armsT s1 b.f1 (j + 1) = sj2 at *
            generalize armsT s1 b.f1 j = sj at *
            have HCJ := q_ hcu; have HSCJ := q_ hsc
            clear hcu hsc
            replace hx0 := mv_ HB.o hx0; replace hx1 := mv_ HB.o hx1; replace hx2 := mv_ HB.o hx2
            have pj := eq_true hj0; have qj := eq_true hj1
            have TA : J0 True := ⟨trivial⟩
            go_upto_region 13 with ((with_reducible refine gate_dst (N := 7) rfl ?_); clear TA; refine bx_ 7 #[.int .i64 0, .int .i64 0, .int .i64 0] 71 ?_; intro g7 hg w10 hbox hb; have B7 := q_ hbox; have G7 := ge_ hg HB; have N7 : J0 (gb ≠ g7) := ⟨by obtain ⟨_, p, v, _, hgb, _⟩ := BW0.o; exact hg ▸ Nat.ne_of_lt (blk_lt hgb)⟩; have N75 := nl_ hg B5; replace BW0 := q_ (BW0.o.below hb); replace B5 := lb_ B5 hb; replace HB := sb_ HB hb; clear hb hbox hg hx0 hx1 hx2; obtain ⟨hq0, hq1, hq2, hqf0, hqf1, hqf2⟩ := d3_ B7)
            have B7b := q_ (fin3_ (a := .int .i64 x.f0) (b := .int .i64 x.f1) (c := .int .i64 x.f2) B7.o)
            have B5b := q_ (finO_ (a := .int .i64 x.f0) (b := .int .i64 x.f1) (c := .int .i64 x.f2) B5.o N75.o)
            replace BW0 := q_ (BW0.o.set3 (a := .int .i64 x.f0) (b := .int .i64 x.f1) (c := .int .i64 x.f2) B7.o (by decide) N7.o)
            replace HB := q_ (finB_ (a := .int .i64 x.f0) (b := .int .i64 x.f1) (c := .int .i64 x.f2) HB.o G7.o)
            clear B7 B5 hq0 hq1 hq2 hqf0 hqf1 hqf2
            generalize ((w10.setCell ⟨g7, 0, none⟩ (.int .i64 x.f0)).setCell ⟨g7, 1, none⟩ (.int .i64 x.f1)).setCell ⟨g7, 2, none⟩ (.int .i64 x.f2) = w11 at *
            have B7 := B7b; have B5 := B5b; clear B7b B5b
            obtain ⟨⟨ha0, ha0b⟩, ⟨ha1, ha1b⟩, ⟨ha2, ha2b⟩⟩ := HAR.o
            have hd0 := dec_few x.f0 ha0 (by omega); have hd1 := dec_few x.f1 ha1 (by omega); have hd2 := dec_few x.f2 ha2 (by omega)
            have hat : armT x = ((((((⟨#[32, 32, 111, 110, 32]⟩ ++ dec x.f0) ++ ⟨#[32]⟩) ++ dec x.f1) ++ ⟨#[32, 115]⟩) ++ dec x.f2) ++ ⟨#[10]⟩) := rfl
            have hsj := HSJ.o
            have hal := HBR.o.2.2.1
            generalize hk0 : dec x.f0 = d0 at *
            generalize hk1 : dec x.f1 = d1 at *
            generalize hk2 : dec x.f2 = d2 at *
            have HAT := q_ hat; have HK0 := q_ hk0; have HK1 := q_ hk1; have HK2 := q_ hk2; clear hat hk0 hk1 hk2
            have e1 : (9223372036854775807 < 5 + d0.size) = False := eq_false (by omega)
            have e2 : (9223372036854775807 < 5 + d0.size + 1) = False := eq_false (by omega)
            have e3 : (9223372036854775807 < 5 + d0.size + 1 + d1.size) = False := eq_false (by omega)
            have e4 : (9223372036854775807 < 5 + d0.size + 1 + d1.size + 2) = False := eq_false (by omega)
            have e5 : (9223372036854775807 < 5 + d0.size + 1 + d1.size + 2 + d2.size) = False := eq_false (by omega)
            have e6 : (9223372036854775807 < 5 + d0.size + 1 + d1.size + 2 + d2.size + 1) = False := eq_false (by omega)
            replace BW0 := q_ (BW0.o.below (below_drew1 (Below.refl _ _))); replace B5 := q_ (blk_drew B5.o); replace B7 := q_ (blk_drew B7.o); replace HB := q_ (below_drew1 HB.o)
            refine start_ (n := 16) (S := fun w' => w'.cell? ⟨g7, 0, none⟩ = some (.int .i64 x.f0) ∧ (w'.cell? ⟨g7, 1, none⟩ = some (.int .i64 x.f1) ∧ w'.cell? ⟨g7, 2, none⟩ = some (.int .i64 x.f2))) (ds := []) (bb 16 0) (by kernel_rfl) rfl rfl ⟨(blk_cell B7.o 0).trans rfl, (blk_cell B7.o 1).trans rfl, (blk_cell B7.o 2).trans rfl⟩ (fun hS => ?_)
            generalize World.drew _ = wd at BW0 B5 B7 HB hS ⊢
            refine pk_ 0 41 1 ?_; refine pk_ 5 46 33 ?_; refine pk_ 10 51 1057 ?_; refine tk_ 1 42 1059 hS ?_; refine tk_ 6 47 1123 hS ?_; refine tk_ 11 52 3171 hS ?_
            refine one_ (i := 2) (N := some 43) (bb 16 3175) rfl rfl (by kernel_rfl) (by decide) (fun K hK => ?_)
            refine gs_ Tryd.func45 #[.int .i64 x.f0] ?_
            (with_reducible refine (text_ x.f0 (by omega) (by omega) _ (HT.o.below HB.o)).mono ?_)
            rw [HK0.o]
            rintro en wt43 ⟨rfl, hb⟩
            refine ⟨_, rfl, ?_⟩
            replace BW0 := q_ (BW0.o.below hb); replace B5 := lb_ B5 hb; replace B7 := lb_ B7 hb; replace HB := sb_ HB hb; clear hb
            refine hK.out _ _ ⟨(blk_cell B7.o 0).trans rfl, (blk_cell B7.o 1).trans rfl, (blk_cell B7.o 2).trans rfl⟩ (fun hS => ?_)
            clear hK K
            refine no_ (some 43) ?_
            refine pk_ 3 44 3183 ?_; refine pk_ 4 45 3199 ?_
            refine one_ (i := 7) (N := some 48) (bb 16 3327) rfl rfl (by kernel_rfl) (by decide) (fun K hK => ?_)
            refine gs_ Tryd.func45 #[.int .i64 x.f1] ?_
            (with_reducible refine (text_ x.f1 (by omega) (by omega) _ (HT.o.below HB.o)).mono ?_)
            rw [HK1.o]
            rintro en wt48 ⟨rfl, hb⟩
            refine ⟨_, rfl, ?_⟩
            replace BW0 := q_ (BW0.o.below hb); replace B5 := lb_ B5 hb; replace B7 := lb_ B7 hb; replace HB := sb_ HB hb; clear hb
            refine hK.out _ _ ⟨(blk_cell B7.o 0).trans rfl, (blk_cell B7.o 1).trans rfl, (blk_cell B7.o 2).trans rfl⟩ (fun hS => ?_)
            clear hK K
            refine no_ (some 48) ?_
            refine pk_ 8 49 3583 ?_; refine pk_ 9 50 4095 ?_
            refine one_ (i := 12) (N := some 53) (bb 16 8191) rfl rfl (by kernel_rfl) (by decide) (fun K hK => ?_)
            refine gs_ Tryd.func45 #[.int .i64 x.f2] ?_
            (with_reducible refine (text_ x.f2 (by omega) (by omega) _ (HT.o.below HB.o)).mono ?_)
            rw [HK2.o]
            rintro en wt53 ⟨rfl, hb⟩
            refine ⟨_, rfl, ?_⟩
            replace BW0 := q_ (BW0.o.below hb); replace B5 := lb_ B5 hb; replace B7 := lb_ B7 hb; replace HB := sb_ HB hb; clear hb
            refine hK.out _ _ ⟨(blk_cell B7.o 0).trans rfl, (blk_cell B7.o 1).trans rfl, (blk_cell B7.o 2).trans rfl⟩ (fun hS => ?_)
            clear hK K
            refine no_ (some 53) ?_
            refine pk_ 13 54 16383 ?_; refine pk_ 14 55 32767 ?_
            refine one_ (i := 15) (N := some 56) (bb 16 65535) rfl rfl (by kernel_rfl) (by decide) (fun K hK => ?_)
            refine gs_ Tryd.func44 #[.pointer (some ⟨gb, 0, none⟩), .string (((((((⟨#[32, 32, 111, 110, 32]⟩ ++ d0) ++ ⟨#[32]⟩) ++ d1) ++ ⟨#[32, 115]⟩) ++ d2) ++ ⟨#[10]⟩))] ?_
            (with_reducible refine (WriteString_ w gb sj _ _ BW0.o HB.o ?wl).mono ?_)
            (case wl => simp only [ByteArray.size_append, zE, zF, zG, zD]; omega)
            rintro en w12 ⟨⟨x_, y_, rfl⟩, hbw, hb, hkt⟩
            refine ⟨_, rfl, ?_⟩
            replace BW0 := q_ hbw; replace B5 := q_ (hkt.2 _ _ _ (by decide) N5.o.symm B5.o); replace B7 := q_ (hkt.2 _ _ _ (by decide) N7.o.symm B7.o); replace HB := q_ hb
            clear hbw hb hkt
            refine hK.out _ _ ⟨(blk_cell B7.o 0).trans rfl, (blk_cell B7.o 1).trans rfl, (blk_cell B7.o 2).trans rfl⟩ (fun hS => ?_)
            clear hK K
            refine no_ (some 56) ?_
            refine done_ (by kernel_rfl) ?_
            clear hS B7 e1 e2 e3 e4 e5 e6
            go_wp2_with fail
            go_roundg (b.f1.length - (j + 1))
            case measure => omega
            case rel => exact ⟨j + 1, by go_num, by omega, by omega, ⟨by rw [HCJ.o, HSCJ.o, HAT.o]; exact BW0.o⟩, B5, HB⟩
          · have ej : j = b.f1.length := by omega
            subst ej
            have hltz : decide ((b.f1.length : Int) < (b.f1.length : Int)) = false := decide_eq_false (by omega)
            clear hgj hj hlj
            have hsj := armsT_size s1 b.f1 HBR.o.2.2.2 b.f1.length (Nat.le_refl _)
            have hbt : blockT code (kk : Int) b = armsT s1 b.f1 b.f1.length ++ elseT b.f2 := by rw [HS1.o]; rfl
            generalize armsT s1 b.f1 b.f1.length = sj at *
            obtain ⟨hq0, hq1, hq2, hqf0, hqf1, hqf2⟩ := d3_ B5
            have hal := HBR.o.2.2.1
            obtain ⟨he0, he1⟩ := HBR.o.2.1
            have hde := dec_few b.f2 he0 (by omega)
            have het : elseT b.f2 = (⟨#[32, 32, 101, 108, 115, 101, 32, 115]⟩ ++ dec b.f2) ++ ⟨#[10]⟩ := rfl
            generalize hke : dec b.f2 = de at *
            have HET := q_ het; have HKE := q_ hke; have HBT := q_ hbt; clear het hke hbt
            have e1 : ((⟨#[32, 32, 101, 108, 115, 101, 32, 115]⟩ : ByteArray).size + de.size ≤ 9223372036854775807) = True := eq_true (by rw [zH]; omega)
            have e2 : ((((⟨#[32, 32, 101, 108, 115, 101, 32, 115]⟩ : ByteArray) ++ de).size + (⟨#[10]⟩ : ByteArray).size) ≤ 9223372036854775807) = True := eq_true (by simp only [ByteArray.size_append, zH, zD]; omega)
            go_wp2_with (first
              | (go_at_call 45; refine (text_ b.f2 (by omega) (by omega) _ (HT.o.below (be_ HB.o))).mono ?_; rw [HKE.o]; rintro en w13 ⟨rfl, hb⟩; replace BW0 := q_ (BW0.o.below hb); replace B5 := lb_ B5 hb; replace HB := sb_ HB hb; clear hb)
              | (go_at_call 44; (with_reducible refine (WriteString_ w gb sj _ _ BW0.o HB.o ?wl).mono ?_); (case wl => simp only [ByteArray.size_append, zH, zD]; omega); rintro en w14 ⟨⟨x_, y_, rfl⟩, hbw, hb, hkt⟩; replace BW0 := q_ hbw; replace HB := q_ hb; clear hbw hb hkt))
            go_roundg (l.length - (kk + 1))
            case measure => omega
            case rel => exact ⟨kk + 1, by go_num, by omega, by omega, ⟨by rw [HCU.o, HSC.o, HBT.o, HET.o]; exact BW0.o⟩, HB⟩
    · have e1 : kk = l.length := by omega
      subst e1
      have hltz : decide ((l.length : Int) < (l.length : Int)) = false := decide_eq_false (by omega)
      clear hgg hkk hlt
      have hrr := HRR.o
      generalize codeT l l.length = code at *
      by_cases hz : code.size ≤ 100000
      · rw [if_pos hz] at hrr
        have dz : decide ((code.size : Int) > 100000) = false := decide_eq_false (by omega)
        have HRE := q_ hrr
        clear hrr hz
        go_wp2_with (first
          | (go_at_call 46; (with_reducible refine (Len_ w gb code _ BW0.o).mono ?_); rintro en w15 ⟨rfl, rfl⟩)
          | (go_at_call 47; (with_reducible refine (String_ w gb code _ BW0.o HB.o).mono ?_); rintro en w16 ⟨rfl, hb⟩))
        go_ret
        exact ⟨by rw [HRE.o]; rfl, hb⟩
      · rw [if_neg hz] at hrr
        have dz : decide ((code.size : Int) > 100000) = true := decide_eq_true (by omega)
        have HRE := q_ hrr
        clear hrr hz
        go_wp2_with (first
          | (go_at_call 46; (with_reducible refine (Len_ w gb code _ BW0.o).mono ?_); rintro en w15 ⟨rfl, rfl⟩))
        go_ret
        exact ⟨by rw [HRE.o]; rfl, be_ HB.o⟩
end Go.Proofs.YtlecpdpdcocibaaDoor.P
namespace Go.Proofs.YtlecpdpdcocibaaDoor.P
open Go.RowKit Go.Proofs.YtlecpdpdcocibaaDoorW.PrintWords Go.Proofs.YtlecpdpdcocibaaDoorW.PrintLast Go.Proofs.YtlecpdpdcocibaaDoorW.PrintMore
attribute [local go_sem] max2_int min2_int max_two min_two max_three min_three max_four min_four
set_option linter.unusedVariables false
set_option linter.unusedSimpArgs false
/-! ### spec_l1Dec: function 41 -/
def spec_l1Dec.l0 : Nat → Int → ByteArray → Option (ByteArray)
 | 0, _, _ => none
 | k + 1, x0, x3 => if x0 > 0 then ((some (([(wrap64 (48 + (Int.tmod x0 10))) % 256] : List Int) : List Int)).bind fun y101 => (if (strOfNums y101).size + x3.size ≤ 9223372036854775807 then (spec_l1Dec.l0 k (wrap64 (Int.tdiv x0 10)) ((strOfNums y101) ++ x3)) else (none))) else (some x3)
def spec_l1Dec.f (k : Nat) (a0 : Int) : Option (ByteArray) := if a0 = 0 then (some (⟨#[48]⟩ : ByteArray)) else (spec_l1Dec.l0 k a0 (⟨#[]⟩ : ByteArray))
theorem spec_l1Dec.calls (k : Nat) (a0 : Int) (r : ByteArray) (w : World) (h : spec_l1Dec.f k a0 = some r) :
  Calls Tryd.prog 41 #[.int .i64 a0] w fun e w' => e = .returned (.string r) ∧ Below w.heap.size w w' := by
 have HB := q_ (Below.refl w.heap.size w)
 have H : (if a0 = 0 then (some (⟨#[48]⟩ : ByteArray)) else (spec_l1Dec.l0 k a0 (⟨#[]⟩ : ByteArray))) = some r := h
 clear h
 by_cases c2 : a0 = 0
 ·rw [if_pos c2] at H
  have c2b0 : (a0 == 0) = true := beq_iff_eq.mpr c2
  have c2b1 : (a0 != 0) = false := bne_eq_false_iff_eq.mpr c2
  clear c2; obtain rfl := Option.some.inj H
  go_enter Tryd.func41, Tryd.ntmps41
  go_wp2
  go_ret
  exact ⟨rt_, be_ HB.o⟩
 ·rw [if_neg c2] at H
  have c2b0 : (a0 == 0) = false := beq_eq_false_iff_ne.mpr c2
  have c2b1 : (a0 != 0) = true := bne_iff_ne.mpr c2
  have H' := q_ H
  clear H
  go_enter Tryd.func41, Tryd.ntmps41
  go_wp2
  go_loopg [0, 3] k (fun kq v0 v3 w' => ∃ (x0_1 : Int) (x3_1 : ByteArray), v0 = .int .i64 x0_1 ∧ v3 = .string x3_1 ∧ J0 (spec_l1Dec.l0 kq x0_1 x3_1 = some r) ∧ J0 (kq ≤ k) ∧ J0 (Below w.heap.size w w'))
  case atStart => exact ⟨(a0), ((⟨#[]⟩ : ByteArray)), rs_, rs_, H', ⟨Nat.le_refl _⟩, ⟨be_ HB.o⟩⟩
  case round =>
   clear H'; (try clear c2); (try clear c2b0); (try clear c2b1); obtain ⟨x0_1, x3_1, rfl, rfl, HA, HK1, HB⟩ := hrel
   cases gk with
   | zero => exact absurd HA.o (by simp [spec_l1Dec.l0])
   | succ k1 =>
    have H := HA.o; clear HA
    simp only [spec_l1Dec.l0] at H
    by_cases c3 : x0_1 > 0
    ·rw [if_pos c3] at H
     have c3b0 : decide (0 < x0_1) = true := dt_ c3
     clear c3
     obtain ⟨y101, hy101⟩ : ∃ y_ : List Int, y_ = (([(wrap64 (48 + (Int.tmod x0_1 10))) % 256] : List Int)) := ⟨_, rfl⟩
     replace H : (if (strOfNums y101).size + x3_1.size ≤ 9223372036854775807 then (spec_l1Dec.l0 k1 (wrap64 (Int.tdiv x0_1 10)) ((strOfNums y101) ++ x3_1)) else (none)) = some r := by first | (rw [hy101]; with_reducible exact H) | (have H2_ := (Option.bind_some _ _).symm.trans H; rw [hy101]; with_reducible exact H2_) | (have H2_ := (Option.bind_some _ _).symm.trans H; with_reducible exact H2_) | with_reducible exact H | (rw [hy101]; exact H) | exact H
     have Ny101 := q_ hy101; clear hy101
     by_cases c4 : (strOfNums y101).size + x3_1.size ≤ 9223372036854775807
     ·rw [if_pos c4] at H; have c4b0 := eq_true c4; have c4b1 := dt_ c4
      try have c4b2 : (9223372036854775807 < (strOfNums y101).size + x3_1.size) = False := eq_false (Nat.not_lt.2 c4)
      have H' := q_ H
      clear H
      go_wp2_with (first | ((with_reducible refine gate_dst (N := 12) rfl ?_); refine Kd.R_lit (Kd.int .u8) _ 5 ?hg (N := 12) ?hd (xs := ([(wrap64 (48 + (Int.tmod x0_1 10))) % 256] : List Int)) (inner := [.int .u8 ((wrap64 (48 + (Int.tmod x0_1 10))) % 256)]) (ok := fun _ => True) (okp := fun _ => True) ?hr ?hp (fun _ hk => hk) trivial (Below.refl _ _) (Nat.le_refl _) (by simp) ?_; (case hd => rfl); (case hg => rfl); (case hr => first | (go_simp; done) | (go_simp; rfl)); (case hp => exact (Reps.one (show Kd.M (Kd.int .u8) _ _ _ ((wrap64 (48 + (Int.tmod x0_1 10))) % 256) [.int .u8 ((wrap64 (48 + (Int.tmod x0_1 10))) % 256)] from rfl) (Reps.none _ _))); intro v102 w5 ho6 hb hg_ hnew_; clear hg_ hnew_; (first | rw [← Ny101.o] at ho6 | (simp only [Int.reduceToNat] at ho6; rw [← Ny101.o] at ho6)); have HO103 := q_ (Kd.R_lower ho6 (below_size (be_ HB.o))); replace HB := sb_ HB hb; clear hb ho6; have hcv7 := own_string (P := Tryd.prog) Tryd.underlying51 Tryd.underlying5 Tryd.underlying9 (Kd.own_of_R HO103.o)))
      go_roundg k1
      case measure => have := HK1.o; omega
      case rel => exact ⟨(wrap64 (Int.tdiv x0_1 10)), ((strOfNums y101) ++ x3_1), rs_, rs_, H', ⟨by have := HK1.o; omega⟩, ⟨be_ HB.o⟩⟩
     ·rw [if_neg c4] at H
      exact absurd H (by simp)
    ·rw [if_neg c3] at H
     have c3b0 : decide (0 < x0_1) = false := df_ c3
     clear c3; obtain rfl := Option.some.inj H
     go_wp2
     go_ret
     exact ⟨rt_, be_ HB.o⟩
end Go.Proofs.YtlecpdpdcocibaaDoor.P
namespace Go.Proofs.YtlecpdpdcocibaaDoor.P
open Go.RowKit Go.Proofs.YtlecpdpdcocibaaDoorW.PrintWords Go.Proofs.YtlecpdpdcocibaaDoorW.PrintLast Go.Proofs.YtlecpdpdcocibaaDoorW.PrintMore Go.Proofs.YtlecpdpdcocibaaDoorEv
set_option linter.unusedVariables false
set_option linter.unusedSimpArgs false
section
variable {P : Program} {ops : Array Oper} {o : Oper} {a : Act} {Q : Exit → Act → World → Prop} {K : Act → World → Prop}
theorem step_append_str {w0 W : World} (base : Nat) (hw : Region.wanted o (yielded ops a.tmps) = true) (s x : Operand) (t u e : TypeId)
    (ho : o.op = .call { callee := .builtin .append, args := #[s, x], argTypes := #[t, u] })
    (ht : P.underlying t = some (.slice e)) (hu : P.underlying u = some .string) (hinfo : (P.info? e).map (fun i => (i.zero, i.size, i.bytes)) = some (some (.int .u8 0), 1, 1))
    (v : Value) (xs : List Int) (y : ByteArray) (hs : a.eval s = v) (hx : a.eval x = .string y)
    (HO : W.ownsRow base e 1 v xs.length (nums .u8 xs)) (HB : Below base w0 W) (hbase : base ≤ W.heap.size) (hl : xs.length + y.size ≤ 140737488355328)
    (h : ∀ v1 w1, w1.ownsRow base e 1 v1 (xs ++ bytesOf y).length (nums .u8 (xs ++ bytesOf y)) → Below base w0 w1 → W.grownBy w1 v.ownBlock → K (a.put o.dst v1) w1) :
    if Region.wanted o (yielded ops a.tmps) = true then Oper.wp P o a W K Q else K (a.put o.dst undef) W := by
  obtain ⟨i0, hi, hzz⟩ := Option.map_eq_some_iff.1 hinfo
  simp only [Prod.mk.injEq] at hzz
  obtain ⟨hz0, hz1, hz2⟩ := hzz
  rw [if_pos hw]
  obtain ⟨v1, w1, hr, hown, hg, _⟩ := Lib.run_append_own_string (P := P) W base t u o.type e i0 ht hu hi hz0 hz1 hz2 v xs.length (nums .u8 xs) HO y (by simp only [maxLen]; omega) hl hbase
  unfold Oper.wp execOp
  simp only [ho, resolve, invoke, builtin, Sem.run_bind, Sem.run_pure, Result.andThen_ok, List.map_toArray, List.map_cons, List.map_nil, hs, hx, hr]
  have hl2 : (xs ++ bytesOf y).length = xs.length + y.size := by rw [List.length_append, bytesOf_length]
  have hc : nums .u8 (xs ++ bytesOf y) = nums .u8 xs ++ Lib.strCells y := by
    rw [nums_append]
    congr 1
    simp [nums, bytesOf, Lib.strCells]
  exact h v1 w1 (by rw [hl2, hc]; exact hown) (HB.grown hg hbase (own_base HO)) hg
end
def OW (w0 w : World) (v : Value) (s : ByteArray) : Prop := w.ownsRow w0.heap.size 5 1 v (bytesOf s).length (nums .u8 (bytesOf s))
theorem own_b {w w1 : World} {base : Nat} {e : TypeId} {size n : Nat} {v : Value} {xs : List Value} (h : w.ownsRow base e size v n xs) (hb : Below w.heap.size w w1) : w1.ownsRow base e size v n xs := own_move h (fun k hk => hb.block k (own_lt h k hk))
theorem own_set3 {w : World} {base k : Nat} {e t : TypeId} {size n : Nat} {v x0 x1 x2 a b c : Value} {xs : List Value} (h : w.ownsRow base e size v n xs) (hk : w.heap[k]? = some (.cells #[x0, x1, x2] t (0, 0))) (hne : e ≠ t) : (((w.setCell ⟨k, 0, none⟩ a).setCell ⟨k, 1, none⟩ b).setCell ⟨k, 2, none⟩ c).ownsRow base e size v n xs := by
  have hn := own_ne h hk hne
  exact own_setCell (p := ⟨k, 2, none⟩) (own_setCell (p := ⟨k, 1, none⟩) (own_setCell (p := ⟨k, 0, none⟩) h hn a) hn b) hn c
theorem strOfNums_bytes (s : ByteArray) : strOfNums (bytesOf s) = s := by
  cases s with
  | mk d =>
    have h : (fun n : Int => UInt8.ofNat n.toNat) ∘ (fun b : UInt8 => (b.toNat : Int)) = id := by
      funext b
      simp
    simp [strOfNums, bytesOf, h]
theorem WriteCodeS_some (k : Nat) (hk : ∀ l : List S68, codeB l = true → True) (A : Option Addr) (c : Nat) (l : List S68) (hyes : codeB l = true) (hcode : spec_CodeOk.f k l = some true) (hdec : ∀ n : Int, 0 ≤ n → n < 10000 → spec_l1Dec.f k n = some (dec n)) (w : World) (hr : Kd.C k68 w A l.length l) (hc : l.length ≤ c) :
    Calls Tryd.prog 10 #[.agg #[.slice A l.length c]] w fun e w' => e = .returned (.string (if (codeT l l.length).size ≤ 100000 then codeT l l.length else ⟨#[]⟩)) ∧ Below w.heap.size w w' := by
  have hR := codeR_of hyes
  have hpos : 1 ≤ l.length := by unfold codeB at hyes; simp only [Bool.and_eq_true, decide_eq_true_eq] at hyes; exact hyes.1.1
  obtain ⟨adA, _, _, rfl, _⟩ := at_T68 hr 0 (by omega) (by omega)
  have hrows := hR.few
  have HCR := q_ hR; have HDEC := q_ hdec; have HCO := q_ hcode
  have HR := q_ hr; have HC := q_ hc; have HB := q_ (Below.refl w.heap.size w)
  have T0 : J0 True := ⟨trivial⟩; have T1 : J0 True := ⟨trivial⟩
  obtain ⟨R, hRR⟩ : ∃ R, R = (if (codeT l l.length).size ≤ 100000 then codeT l l.length else (⟨#[]⟩ : ByteArray)) := ⟨_, rfl⟩
  rw [← hRR]
  have HRR := q_ hRR
  clear hr hc hyes hR hRR hdec hcode hk
  go_enter Tryd.func10, Tryd.ntmps10
  go_upto_region 4 with (first
    | ((with_reducible refine gate_dst (N := 1) rfl ?_); clear T0; refine bx_ 1 #[.slice (some adA) l.length c] 29 ?_; intro g1 hg w1 hbox hb; have BK1 := q_ hbox; have G1 := ge_ hg HB; replace HB := sb_ HB hb; clear hb hbox hg; obtain ⟨hz0, hf0⟩ := d1_ BK1)
    | (go_at_call 40; (with_reducible refine (spec_CodeOk.calls k _ _ _ _ _ (Kd.C_below HR.o (be_ HB.o)) HC.o HCO.o).mono ?_); rintro e w3 ⟨rfl, hb⟩; replace BK1 := lb_ BK1 hb; replace HB := sb_ HB hb; clear hb hz0 hf0)
    | ((with_reducible refine gate_dst (N := 10) rfl ?_); clear T1; refine Kd.R_lit (Kd.int .u8) _ 5 ?hg (N := 10) ?hd (xs := ([] : List Int)) (inner := []) (ok := fun _ => True) (okp := fun _ => True) ?hr ?hp (fun _ hk => hk) trivial (Below.refl _ _) (Nat.le_refl _) (by simp) ?_; (case hd => rfl); (case hg => rfl); (case hr => first | (go_simp; done) | (go_simp; rfl)); (case hp => exact (Reps.none _ _)); intro v3 w4 ho hb hgg_ hnew_; clear hgg_ hnew_; have HO0 := q_ (Kd.own_of_R (Kd.R_lower ho HB.o.size)); replace BK1 := lb_ BK1 hb; replace HB := sb_ HB hb; clear hb ho))
  have HO : J0 (OW w w4 v3 (codeT l 0)) := HO0
  clear HO0
  go_wp2_with fail
  go_loopg [3, 4] l.length (fun gg v3 v4 wr => ∃ kk : Nat, v4 = .int .i64 kk ∧ kk ≤ l.length ∧ l.length - kk ≤ gg ∧ J0 ((codeT l kk).size ≤ 100000) ∧ J0 (OW w wr v3 (codeT l kk)) ∧ J0 (wr.heap[g1]? = some (.cells #[.slice (some adA) l.length c] 29)) ∧ J0 (Below w.heap.size w wr))
  case atStart => exact ⟨0, rfl, by omega, by omega, ⟨by simp [codeT, ByteArray.size]⟩, HO, BK1, HB⟩
  case round =>
    clear HO BK1 HB
    obtain ⟨kk, rfl, hkk, hgg, HZ, HO, BK1, HB⟩ := hrel
    obtain ⟨hz0, hf0⟩ := d1_ BK1
    by_cases hlt : kk < l.length
    · have hltz : decide ((kk : Int) < (l.length : Int)) = true := decide_eq_true (by omega)
      have hs0 : (0 : Int) ≤ (kk : Int) := by omega
      have hs1 : (kk : Int) < (l.length : Int) := by omega
      have HBR := q_ (HCR.o.each _ (rdB_mem hlt))
      have HSZ := q_ (codeT_size l HCR.o kk (by omega))
      have hsc : codeT l (kk + 1) = blockT (codeT l kk) (kk : Int) (rd_T68 l (kk : Int)) := rfl
      obtain ⟨ad, A1, c1, e, hx0, hx1, hx2, hl1, hi1⟩ := at_T68 HR.o (kk : Int) hs0 hs1
      cases e
      rw [Int.toNat_natCast] at hx0 hx1 hx2
      generalize rd_T68 l (kk : Int) = b at *
      generalize hcu : codeT l (kk + 1) = code2 at *
      generalize codeT l kk = code at *
      have HCU := q_ hcu; have HSC := q_ hsc; have HRA := q_ hi1; have HCA := q_ hl1
      clear hcu hsc hi1 hl1
      replace hx0 := mv_ HB.o hx0; replace hx1 := mv_ HB.o hx1; replace hx2 := mv_ HB.o hx2
      have p1 := eq_true hs0; have q1 := eq_true hs1
      have TR : J0 True := ⟨trivial⟩
      go_upto_region 8 with ((with_reducible refine gate_dst (N := 5) rfl ?_); clear TR; refine bx_ 5 #[.int .i64 0, .slice none 0 0, .int .i64 0] 68 ?_; intro g5 hg w6 hbox hb; have B5 := q_ hbox; have G5 := ge_ hg HB; have N51 := nl_ hg BK1; replace BK1 := lb_ BK1 hb; replace HO := q_ (own_b HO.o hb); replace HB := sb_ HB hb; clear hb hbox hg hx0 hx1 hx2 hz0 hf0; obtain ⟨hq0, hq1, hq2, hqf0, hqf1, hqf2⟩ := d3_ B5)
      have B5b := q_ (fin3_ (a := .int .i64 b.f0) (b := .slice A1 b.f1.length c1) (c := .int .i64 b.f2) B5.o)
      have BK1b : J0 ((((w6.setCell ⟨g5, 0, none⟩ (.int .i64 b.f0)).setCell ⟨g5, 1, none⟩ (.slice A1 b.f1.length c1)).setCell ⟨g5, 2, none⟩ (.int .i64 b.f2)).heap[g1]? = some (.cells #[.slice (some adA) l.length c] 29)) := ⟨blk_far (blk_far (blk_far BK1.o N51.o _) N51.o _) N51.o _⟩
      have HOb := q_ (own_set3 (a := .int .i64 b.f0) (b := .slice A1 b.f1.length c1) (c := .int .i64 b.f2) HO.o B5.o (by decide))
      replace HB := q_ (finB_ (a := .int .i64 b.f0) (b := .slice A1 b.f1.length c1) (c := .int .i64 b.f2) HB.o G5.o)
      clear B5 BK1 HO hq0 hq1 hq2 hqf0 hqf1 hqf2
      generalize ((w6.setCell ⟨g5, 0, none⟩ (.int .i64 b.f0)).setCell ⟨g5, 1, none⟩ (.slice A1 b.f1.length c1)).setCell ⟨g5, 2, none⟩ (.int .i64 b.f2) = w7 at *
      have B5 := B5b; have BK1 := BK1b; have HO := HOb; clear B5b BK1b HOb
      have hd := dec_few (kk : Int) (by omega) (by omega)
      have hsz := HSZ.o
      have hht : headT (kk : Int) = (⟨#[115]⟩ ++ dec (kk : Int)) ++ ⟨#[58, 10]⟩ := rfl
      generalize hdk : dec (kk : Int) = dk at *
      have HHT := q_ hht; have HDK := q_ hdk; clear hht hdk
      have a1 : ((⟨#[115]⟩ : ByteArray).size + dk.size ≤ 9223372036854775807) = True := eq_true (by rw [zA]; omega)
      have a2 : (((⟨#[115]⟩ : ByteArray) ++ dk).size + (⟨#[58, 10]⟩ : ByteArray).size ≤ 9223372036854775807) = True := eq_true (by simp only [ByteArray.size_append, zA, zB]; omega)
      have HSO := q_ (openT_size code (kk : Int) b.f0 (by omega) (by omega) (by have := HBR.o.1.2; omega))
      obtain ⟨s1, hs1_⟩ : ∃ s1, s1 = openT code (kk : Int) b.f0 := ⟨_, rfl⟩
      have HS1 := q_ hs1_; clear hs1_
      have hs1z : s1.size ≤ 6000 * kk + 21 := by have := HSO.o; rw [HS1.o]; omega
      go_upto_region 9 with (first
        | (go_at_call 41; (with_reducible refine (spec_l1Dec.calls k _ _ _ (HDEC.o _ (by omega) (by omega))).mono ?_); rw [HDK.o]; rintro en w8_ ⟨rfl, hb⟩; replace HO := q_ (own_b HO.o hb); replace B5 := lb_ B5 hb; replace BK1 := lb_ BK1 hb; replace HB := sb_ HB hb; clear hb)
        | ((with_reducible refine gate_builtin (b := .append) (xs := #[.tmp 23, .tmp 27]) rfl ?_); at_builtin; go_loud (refine print_append_str (w0 := w) w.heap.size rfl (.tmp 23) (.tmp 27) 51 9 5 rfl Tryd.underlying51 Tryd.underlying9 infoU8_ _ (bytesOf code) ((⟨#[115]⟩ ++ dk) ++ ⟨#[58, 10]⟩) rfl rfl HO.o HB.o (below_size HB.o) ?aL ?_; (case aL => rw [bytesOf_length]; simp only [ByteArray.size_append, zA, zB]; omega); intro v9 w9 ho hb hgr; replace B5 := q_ (blk_grown B5.o hgr (own_ne HO.o B5.o (by decide))); replace BK1 := q_ (blk_grown BK1.o hgr (own_ne HO.o BK1.o (by decide))); replace HO := q_ ho; replace HB := q_ hb; clear ho hb hgr; (try clear hq0 hq1 hq2 hqf0 hqf1 hqf2); obtain ⟨hq0, hq1, hq2, hqf0, hqf1, hqf2⟩ := d3_ B5)))
      rw [← bytesOf_add, ← HHT.o] at HO
      obtain ⟨s0, hs0_⟩ : ∃ s0, s0 = code ++ headT (kk : Int) := ⟨_, rfl⟩
      rw [← hs0_] at HO
      have hs0z : s0.size ≤ 6000 * kk + 7 := by have := headT_size (kk : Int) (by omega) (by omega); rw [hs0_, ByteArray.size_append]; omega
      have HS0 := q_ hs0_; clear hs0_
      by_cases hacc : 0 ≤ b.f0
      · have dg : decide (b.f0 ≥ 0) = true := decide_eq_true hacc
        have hso : openT code (kk : Int) b.f0 = (code ++ headT (kk : Int)) ++ accT b.f0 := if_pos hacc
        have hb0 := HBR.o.1.2
        have hda := dec_few b.f0 hacc (by omega)
        have hta : accT b.f0 = (⟨#[32, 32, 97, 99, 99, 101, 112, 116, 32]⟩ ++ dec b.f0) ++ ⟨#[10]⟩ := rfl
        generalize hka : dec b.f0 = da at *
        have HTA := q_ hta; have HKA := q_ hka; have HSOP := q_ hso; clear hta hka hso
        have f1 : ((⟨#[32, 32, 97, 99, 99, 101, 112, 116, 32]⟩ : ByteArray).size + da.size ≤ 9223372036854775807) = True := eq_true (by rw [zC]; omega)
        have f2 : ((((⟨#[32, 32, 97, 99, 99, 101, 112, 116, 32]⟩ : ByteArray) ++ da).size + (⟨#[10]⟩ : ByteArray).size) ≤ 9223372036854775807) = True := eq_true (by simp only [ByteArray.size_append, zC, zD]; omega)
        go_upto_region 11 with (first
          | (go_at_call 41; (with_reducible refine (spec_l1Dec.calls k _ _ _ (HDEC.o _ (by omega) (by omega))).mono ?_); rw [HKA.o]; rintro en w8_ ⟨rfl, hb⟩; replace HO := q_ (own_b HO.o hb); replace B5 := lb_ B5 hb; replace BK1 := lb_ BK1 hb; replace HB := sb_ HB hb; clear hb)
          | ((with_reducible refine gate_builtin (b := .append) (xs := #[.tmp 32, .tmp 37]) rfl ?_); at_builtin; go_loud (refine print_append_str (w0 := w) w.heap.size rfl (.tmp 32) (.tmp 37) 51 9 5 rfl Tryd.underlying51 Tryd.underlying9 infoU8_ _ (bytesOf s0) ((⟨#[32, 32, 97, 99, 99, 101, 112, 116, 32]⟩ ++ da) ++ ⟨#[10]⟩) rfl rfl HO.o HB.o (below_size HB.o) ?aL ?_; (case aL => rw [bytesOf_length]; simp only [ByteArray.size_append, zC, zD]; omega); intro v9 w9 ho hb hgr; replace B5 := q_ (blk_grown B5.o hgr (own_ne HO.o B5.o (by decide))); replace BK1 := q_ (blk_grown BK1.o hgr (own_ne HO.o BK1.o (by decide))); replace HO := q_ ho; replace HB := q_ hb; clear ho hb hgr; (try clear hq0 hq1 hq2 hqf0 hqf1 hqf2); obtain ⟨hq0, hq1, hq2, hqf0, hqf1, hqf2⟩ := d3_ B5)))
        rw [← bytesOf_add, ← HTA.o, HS0.o, ← HSOP.o, ← HS1.o] at HO
        clear f1 f2 a1 a2 dg hacc
        go_wp2_with fail
        go_loopg [3, 6] b.f1.length (fun gg v3 v6 wr => ∃ j : Nat, v6 = .int .i64 j ∧ j ≤ b.f1.length ∧ b.f1.length - j ≤ gg ∧ J0 (OW w wr v3 (armsT s1 b.f1 j)) ∧ J0 (wr.heap[g5]? = some (.cells #[.int .i64 b.f0, .slice A1 b.f1.length c1, .int .i64 b.f2] 68)) ∧ J0 (wr.heap[g1]? = some (.cells #[.slice (some adA) l.length c] 29)) ∧ J0 (Below w.heap.size w wr))
        case atStart => exact ⟨0, rfl, by omega, by omega, HO, B5, BK1, HB⟩
        case round =>
          clear HO B5 HB BK1 hq0 hq1 hq2 hqf0 hqf1 hqf2
          obtain ⟨j, rfl, hj, hgj, HO, B5, BK1, HB⟩ := hrel
          obtain ⟨hq0, hq1, hq2, hqf0, hqf1, hqf2⟩ := d3_ B5
          by_cases hlj : j < b.f1.length
          · have hltz : decide ((j : Int) < (b.f1.length : Int)) = true := decide_eq_true (by omega)
            have hj0 : (0 : Int) ≤ (j : Int) := by omega
            have hj1 : (j : Int) < (b.f1.length : Int) := by omega
            have HAR := q_ (HBR.o.2.2.2 _ (rdA_mem hlj))
            have HSJ := q_ (armsT_size s1 b.f1 HBR.o.2.2.2 j (by omega))
            have hsc : armsT s1 b.f1 (j + 1) = armsT s1 b.f1 j ++ armT (rd_T71 b.f1 (j : Int)) := rfl
            obtain ⟨adr, e, hx0, hx1, hx2⟩ := at_T71 HRA.o (j : Int) hj0 hj1
            cases e
            rw [Int.toNat_natCast] at hx0 hx1 hx2
            generalize rd_T71 b.f1 (j : Int) = x at *
            generalize hcu : armsT s1 b.f1 (j + 1) = sj2 at *
            generalize armsT s1 b.f1 j = sj at *
            have HCJ := q_ hcu; have HSCJ := q_ hsc
            have HX0 := q_ hx0; have HX1 := q_ hx1; have HX2 := q_ hx2
            clear hcu hsc hx0 hx1 hx2
            have pj := eq_true hj0; have qj := eq_true hj1
            obtain ⟨⟨ha0, ha0b⟩, ⟨ha1, ha1b⟩, ⟨ha2, ha2b⟩⟩ := HAR.o
            have hd0 := dec_few x.f0 ha0 (by omega); have hd1 := dec_few x.f1 ha1 (by omega); have hd2 := dec_few x.f2 ha2 (by omega)
            have hat : armT x = ((((((⟨#[32, 32, 111, 110, 32]⟩ ++ dec x.f0) ++ ⟨#[32]⟩) ++ dec x.f1) ++ ⟨#[32, 115]⟩) ++ dec x.f2) ++ ⟨#[10]⟩) := rfl
            have hsj := HSJ.o
            have hal := HBR.o.2.2.1
            generalize hk0 : dec x.f0 = d0 at *
            generalize hk1 : dec x.f1 = d1 at *
            generalize hk2 : dec x.f2 = d2 at *
            have HAT := q_ hat; have HK0 := q_ hk0; have HK1 := q_ hk1; have HK2 := q_ hk2; clear hat hk0 hk1 hk2
            have e1 : (9223372036854775807 < 5 + d0.size) = False := eq_false (by omega)
            have e2 : (9223372036854775807 < 5 + d0.size + 1) = False := eq_false (by omega)
            have e3 : (9223372036854775807 < 5 + d0.size + 1 + d1.size) = False := eq_false (by omega)
            have e4 : (9223372036854775807 < 5 + d0.size + 1 + d1.size + 2) = False := eq_false (by omega)
            have e5 : (9223372036854775807 < 5 + d0.size + 1 + d1.size + 2 + d2.size) = False := eq_false (by omega)
            have e6 : (9223372036854775807 < 5 + d0.size + 1 + d1.size + 2 + d2.size + 1) = False := eq_false (by omega)
            go_wp2_with fail
            replace HO := q_ (own_b HO.o (below_drew1 (Below.refl _ _))); replace B5 := q_ (blk_drew B5.o); replace BK1 := q_ (blk_drew BK1.o); replace HB := q_ (below_drew1 HB.o)
            clear hq0 hq1 hq2 hqf0 hqf1 hqf2
            refine start_ (n := 30) (S := fun w' => w'.cell? ⟨g5, 1, none⟩ = some (.slice (some adr) b.f1.length c1) ∧ (w'.cell? (adr.add (j * 3)) = some (.int .i64 x.f0) ∧ (w'.cell? ⟨(adr.add (j * 3)).block, (adr.add (j * 3)).off + 1, none⟩ = some (.int .i64 x.f1) ∧ w'.cell? ⟨(adr.add (j * 3)).block, (adr.add (j * 3)).off + 2, none⟩ = some (.int .i64 x.f2)))) (ds := []) (bb 30 0) (by kernel_rfl) rfl rfl ⟨(blk_cell B5.o 1).trans rfl, mv_ (HB.o) HX0.o, mv_ HB.o HX1.o, mv_ HB.o HX2.o⟩ (fun hS => ?_)
            generalize World.drew _ = wd at HO B5 BK1 HB hS ⊢
            refine pk_ 0 46 1 ?_
            refine pk_ 1 47 3 ?_
            refine pk_ 3 49 11 ?_
            refine pk_ 10 56 1035 ?_
            refine pk_ 12 58 5131 ?_
            refine pk_ 19 65 529419 ?_
            refine pk_ 21 67 2626571 ?_
            refine tk_ 2 48 2626575 hS ?_
            refine tk_ 11 57 2628623 hS ?_
            refine tk_ 20 66 3677199 hS ?_
            refine pk_ 4 50 3677215 ?_
            refine pk_ 5 51 3677247 ?_
            refine tk_ 6 52 3677311 hS ?_
            refine pk_ 13 59 3685503 ?_
            refine pk_ 14 60 3701887 ?_
            refine tk_ 15 61 3734655 hS ?_
            refine pk_ 22 68 7928959 ?_
            refine pk_ 23 69 16317567 ?_
            refine tk_ 24 70 33094783 hS ?_
            refine one_ (i := 7) (N := some 53) (bb 30 33094911) rfl rfl (by kernel_rfl) (by decide) (fun K hK => ?_)
            refine gs_ Tryd.func41 #[.int .i64 x.f0] ?_
            (with_reducible refine (spec_l1Dec.calls k _ _ _ (HDEC.o _ (by omega) (by omega))).mono ?_)
            rw [HK0.o]
            rintro en wt53 ⟨rfl, hb⟩
            refine ⟨_, rfl, ?_⟩
            replace HO := q_ (own_b HO.o hb); replace B5 := lb_ B5 hb; replace BK1 := lb_ BK1 hb; replace HB := sb_ HB hb; clear hb
            refine hK.out _ _ ⟨(blk_cell B5.o 1).trans rfl, mv_ (HB.o) HX0.o, mv_ HB.o HX1.o, mv_ HB.o HX2.o⟩ (fun hS => ?_)
            clear hK K
            refine no_ (some 53) ?_
            refine pk_ 8 54 33095167 ?_
            refine pk_ 9 55 33095679 ?_
            refine one_ (i := 16) (N := some 62) (bb 30 33161215) rfl rfl (by kernel_rfl) (by decide) (fun K hK => ?_)
            refine gs_ Tryd.func41 #[.int .i64 x.f1] ?_
            (with_reducible refine (spec_l1Dec.calls k _ _ _ (HDEC.o _ (by omega) (by omega))).mono ?_)
            rw [HK1.o]
            rintro en wt62 ⟨rfl, hb⟩
            refine ⟨_, rfl, ?_⟩
            replace HO := q_ (own_b HO.o hb); replace B5 := lb_ B5 hb; replace BK1 := lb_ BK1 hb; replace HB := sb_ HB hb; clear hb
            refine hK.out _ _ ⟨(blk_cell B5.o 1).trans rfl, mv_ (HB.o) HX0.o, mv_ HB.o HX1.o, mv_ HB.o HX2.o⟩ (fun hS => ?_)
            clear hK K
            refine no_ (some 62) ?_
            refine pk_ 17 63 33292287 ?_
            refine pk_ 18 64 33554431 ?_
            refine one_ (i := 25) (N := some 71) (bb 30 67108863) rfl rfl (by kernel_rfl) (by decide) (fun K hK => ?_)
            refine gs_ Tryd.func41 #[.int .i64 x.f2] ?_
            (with_reducible refine (spec_l1Dec.calls k _ _ _ (HDEC.o _ (by omega) (by omega))).mono ?_)
            rw [HK2.o]
            rintro en wt71 ⟨rfl, hb⟩
            refine ⟨_, rfl, ?_⟩
            replace HO := q_ (own_b HO.o hb); replace B5 := lb_ B5 hb; replace BK1 := lb_ BK1 hb; replace HB := sb_ HB hb; clear hb
            refine hK.out _ _ ⟨(blk_cell B5.o 1).trans rfl, mv_ (HB.o) HX0.o, mv_ HB.o HX1.o, mv_ HB.o HX2.o⟩ (fun hS => ?_)
            clear hK K
            refine no_ (some 71) ?_
            refine pk_ 26 72 134217727 ?_
            refine pk_ 27 73 268435455 ?_
            refine one_ (i := 28) (N := some 74) (bb 30 536870911) rfl rfl (by kernel_rfl) (by decide) (fun K hK => ?_)
            refine step_append_str (w0 := w) w.heap.size ?q1_ (.tmp 46) (.tmp 73) 51 9 5 ?q2_ Tryd.underlying51 Tryd.underlying9 infoU8_ _ (bytesOf sj) ?q3_ ?q4_ ?q5_ HO.o HB.o (below_size HB.o) ?aL ?_
            (case q1_ => rfl)
            (case q2_ => rfl)
            (case q4_ => rfl)
            (case q5_ => rfl)
            (case aL => rw [bytesOf_length]; simp only [ByteArray.size_append, zE, zF, zG, zD]; omega)
            intro v9 w9 ho hb hgr
            replace B5 := q_ (blk_grown B5.o hgr (own_ne HO.o B5.o (by decide))); replace BK1 := q_ (blk_grown BK1.o hgr (own_ne HO.o BK1.o (by decide)))
            replace HO := q_ ho; replace HB := q_ hb
            clear ho hb hgr
            refine hK.out _ _ ⟨(blk_cell B5.o 1).trans rfl, mv_ (HB.o) HX0.o, mv_ HB.o HX1.o, mv_ HB.o HX2.o⟩ (fun hS => ?_)
            clear hK K
            refine no_ (some 74) ?_
            refine pk_ 29 3 1073741823 ?_
            refine done_ (by kernel_rfl) ?_
            clear hS e1 e2 e3 e4 e5 e6
            go_wp2_with fail
            go_roundg (b.f1.length - (j + 1))
            case measure => omega
            case rel => exact ⟨j + 1, by go_num, by omega, by omega, ⟨by unfold OW; rw [HCJ.o, HSCJ.o, HAT.o, bytesOf_add]; exact HO.o⟩, B5, BK1, HB⟩
          · have ej : j = b.f1.length := by omega
            subst ej
            have hltz : decide ((b.f1.length : Int) < (b.f1.length : Int)) = false := decide_eq_false (by omega)
            clear hgj hj hlj
            have hsj := armsT_size s1 b.f1 HBR.o.2.2.2 b.f1.length (Nat.le_refl _)
            have hbt : blockT code (kk : Int) b = armsT s1 b.f1 b.f1.length ++ elseT b.f2 := by rw [HS1.o]; rfl
            generalize armsT s1 b.f1 b.f1.length = sj at *
            have hal := HBR.o.2.2.1
            obtain ⟨he0, he1⟩ := HBR.o.2.1
            have hde := dec_few b.f2 he0 (by omega)
            have het : elseT b.f2 = (⟨#[32, 32, 101, 108, 115, 101, 32, 115]⟩ ++ dec b.f2) ++ ⟨#[10]⟩ := rfl
            generalize hke : dec b.f2 = de at *
            have HET := q_ het; have HKE := q_ hke; have HBT := q_ hbt; clear het hke hbt
            have e1 : ((⟨#[32, 32, 101, 108, 115, 101, 32, 115]⟩ : ByteArray).size + de.size ≤ 9223372036854775807) = True := eq_true (by rw [zH]; omega)
            have e2 : ((((⟨#[32, 32, 101, 108, 115, 101, 32, 115]⟩ : ByteArray) ++ de).size + (⟨#[10]⟩ : ByteArray).size) ≤ 9223372036854775807) = True := eq_true (by simp only [ByteArray.size_append, zH, zD]; omega)
            go_upto_region 16 with (first
              | (go_at_call 41; (with_reducible refine (spec_l1Dec.calls k _ _ _ (HDEC.o _ (by omega) (by omega))).mono ?_); rw [HKE.o]; rintro en w8_ ⟨rfl, hb⟩; replace HO := q_ (own_b HO.o hb); replace B5 := lb_ B5 hb; replace BK1 := lb_ BK1 hb; replace HB := sb_ HB hb; clear hb)
              | ((with_reducible refine gate_builtin (b := .append) (xs := #[.tmp 75, .tmp 80]) rfl ?_); at_builtin; go_loud (refine print_append_str (w0 := w) w.heap.size rfl (.tmp 75) (.tmp 80) 51 9 5 rfl Tryd.underlying51 Tryd.underlying9 infoU8_ _ (bytesOf sj) ((⟨#[32, 32, 101, 108, 115, 101, 32, 115]⟩ ++ de) ++ ⟨#[10]⟩) rfl rfl HO.o HB.o (below_size HB.o) ?aL ?_; (case aL => rw [bytesOf_length]; simp only [ByteArray.size_append, zH, zD]; omega); intro v9 w9 ho hb hgr; replace B5 := q_ (blk_grown B5.o hgr (own_ne HO.o B5.o (by decide))); replace BK1 := q_ (blk_grown BK1.o hgr (own_ne HO.o BK1.o (by decide))); replace HO := q_ ho; replace HB := q_ hb; clear ho hb hgr; (try clear hq0 hq1 hq2 hqf0 hqf1 hqf2); obtain ⟨hq0, hq1, hq2, hqf0, hqf1, hqf2⟩ := d3_ B5)))
            have hc2 : code2 = sj ++ ((⟨#[32, 32, 101, 108, 115, 101, 32, 115]⟩ ++ de) ++ ⟨#[10]⟩) := by rw [HSC.o, HBT.o, HET.o]
            rw [← bytesOf_add, ← hc2] at HO
            have hl2 := bytesOf_length code2
            obtain ⟨A3_, c3_, rfl⟩ := own_slice HO.o
            by_cases hz : code2.size ≤ 100000
            · have dz : decide (((bytesOf code2).length : Int) > 100000) = false := decide_eq_false (by rw [hl2]; omega)
              clear hc2 hl2
              go_wp2_with fail
              go_roundg (l.length - (kk + 1))
              case measure => omega
              case rel => exact ⟨kk + 1, by go_num, by omega, by omega, ⟨by rw [HCU.o]; exact hz⟩, ⟨by unfold OW; rw [HCU.o]; exact HO.o⟩, BK1, HB⟩
            · have dz : decide (((bytesOf code2).length : Int) > 100000) = true := decide_eq_true (by rw [hl2]; omega)
              have hbig := codeT_grows l (kk + 1) (l.length - (kk + 1))
              rw [show kk + 1 + (l.length - (kk + 1)) = l.length by omega, HCU.o] at hbig
              have HRE : J0 (R = ⟨#[]⟩) := ⟨by rw [HRR.o, if_neg (by omega)]⟩
              clear hc2 hl2
              go_wp2_with fail
              go_ret
              exact ⟨by rw [HRE.o]; rfl, be_ HB.o⟩
      · have dg : decide (b.f0 ≥ 0) = false := decide_eq_false hacc
        have hso : openT code (kk : Int) b.f0 = code ++ headT (kk : Int) := if_neg hacc
        have HSOP := q_ hso; clear hso
        go_upto_region 11 with fail
        rw [HS0.o, ← HSOP.o, ← HS1.o] at HO
        clear a1 a2 dg hacc
        go_wp2_with fail
        go_loopg [3, 6] b.f1.length (fun gg v3 v6 wr => ∃ j : Nat, v6 = .int .i64 j ∧ j ≤ b.f1.length ∧ b.f1.length - j ≤ gg ∧ J0 (OW w wr v3 (armsT s1 b.f1 j)) ∧ J0 (wr.heap[g5]? = some (.cells #[.int .i64 b.f0, .slice A1 b.f1.length c1, .int .i64 b.f2] 68)) ∧ J0 (wr.heap[g1]? = some (.cells #[.slice (some adA) l.length c] 29)) ∧ J0 (Below w.heap.size w wr))
        case atStart => exact ⟨0, rfl, by omega, by omega, HO, B5, BK1, HB⟩
        case round =>
          clear HO B5 HB BK1 hq0 hq1 hq2 hqf0 hqf1 hqf2
          obtain ⟨j, rfl, hj, hgj, HO, B5, BK1, HB⟩ := hrel
          obtain ⟨hq0, hq1, hq2, hqf0, hqf1, hqf2⟩ := d3_ B5
          by_cases hlj : j < b.f1.length
          · have hltz : decide ((j : Int) < (b.f1.length : Int)) = true := decide_eq_true (by omega)
            have hj0 : (0 : Int) ≤ (j : Int) := by omega
            have hj1 : (j : Int) < (b.f1.length : Int) := by omega
            have HAR := q_ (HBR.o.2.2.2 _ (rdA_mem hlj))
            have HSJ := q_ (armsT_size s1 b.f1 HBR.o.2.2.2 j (by omega))
            have hsc : armsT s1 b.f1 (j + 1) = armsT s1 b.f1 j ++ armT (rd_T71 b.f1 (j : Int)) := rfl
            obtain ⟨adr, e, hx0, hx1, hx2⟩ := at_T71 HRA.o (j : Int) hj0 hj1
            cases e
            rw [Int.toNat_natCast] at hx0 hx1 hx2
            generalize rd_T71 b.f1 (j : Int) = x at *
            generalize hcu : armsT s1 b.f1 (j + 1) = sj2 at *
            generalize armsT s1 b.f1 j = sj at *
            have HCJ := q_ hcu; have HSCJ := q_ hsc
            have HX0 := q_ hx0; have HX1 := q_ hx1; have HX2 := q_ hx2
            clear hcu hsc hx0 hx1 hx2
            have pj := eq_true hj0; have qj := eq_true hj1
            obtain ⟨⟨ha0, ha0b⟩, ⟨ha1, ha1b⟩, ⟨ha2, ha2b⟩⟩ := HAR.o
            have hd0 := dec_few x.f0 ha0 (by omega); have hd1 := dec_few x.f1 ha1 (by omega); have hd2 := dec_few x.f2 ha2 (by omega)
            have hat : armT x = ((((((⟨#[32, 32, 111, 110, 32]⟩ ++ dec x.f0) ++ ⟨#[32]⟩) ++ dec x.f1) ++ ⟨#[32, 115]⟩) ++ dec x.f2) ++ ⟨#[10]⟩) := rfl
            have hsj := HSJ.o
            have hal := HBR.o.2.2.1
            generalize hk0 : dec x.f0 = d0 at *
            generalize hk1 : dec x.f1 = d1 at *
            generalize hk2 : dec x.f2 = d2 at *
            have HAT := q_ hat; have HK0 := q_ hk0; have HK1 := q_ hk1; have HK2 := q_ hk2; clear hat hk0 hk1 hk2
            have e1 : (9223372036854775807 < 5 + d0.size) = False := eq_false (by omega)
            have e2 : (9223372036854775807 < 5 + d0.size + 1) = False := eq_false (by omega)
            have e3 : (9223372036854775807 < 5 + d0.size + 1 + d1.size) = False := eq_false (by omega)
            have e4 : (9223372036854775807 < 5 + d0.size + 1 + d1.size + 2) = False := eq_false (by omega)
            have e5 : (9223372036854775807 < 5 + d0.size + 1 + d1.size + 2 + d2.size) = False := eq_false (by omega)
            have e6 : (9223372036854775807 < 5 + d0.size + 1 + d1.size + 2 + d2.size + 1) = False := eq_false (by omega)
            go_wp2_with fail
            replace HO := q_ (own_b HO.o (below_drew1 (Below.refl _ _))); replace B5 := q_ (blk_drew B5.o); replace BK1 := q_ (blk_drew BK1.o); replace HB := q_ (below_drew1 HB.o)
            clear hq0 hq1 hq2 hqf0 hqf1 hqf2
            refine start_ (n := 30) (S := fun w' => w'.cell? ⟨g5, 1, none⟩ = some (.slice (some adr) b.f1.length c1) ∧ (w'.cell? (adr.add (j * 3)) = some (.int .i64 x.f0) ∧ (w'.cell? ⟨(adr.add (j * 3)).block, (adr.add (j * 3)).off + 1, none⟩ = some (.int .i64 x.f1) ∧ w'.cell? ⟨(adr.add (j * 3)).block, (adr.add (j * 3)).off + 2, none⟩ = some (.int .i64 x.f2)))) (ds := []) (bb 30 0) (by kernel_rfl) rfl rfl ⟨(blk_cell B5.o 1).trans rfl, mv_ (HB.o) HX0.o, mv_ HB.o HX1.o, mv_ HB.o HX2.o⟩ (fun hS => ?_)
            generalize World.drew _ = wd at HO B5 BK1 HB hS ⊢
            refine pk_ 0 46 1 ?_
            refine pk_ 1 47 3 ?_
            refine pk_ 3 49 11 ?_
            refine pk_ 10 56 1035 ?_
            refine pk_ 12 58 5131 ?_
            refine pk_ 19 65 529419 ?_
            refine pk_ 21 67 2626571 ?_
            refine tk_ 2 48 2626575 hS ?_
            refine tk_ 11 57 2628623 hS ?_
            refine tk_ 20 66 3677199 hS ?_
            refine pk_ 4 50 3677215 ?_
            refine pk_ 5 51 3677247 ?_
            refine tk_ 6 52 3677311 hS ?_
            refine pk_ 13 59 3685503 ?_
            refine pk_ 14 60 3701887 ?_
            refine tk_ 15 61 3734655 hS ?_
            refine pk_ 22 68 7928959 ?_
            refine pk_ 23 69 16317567 ?_
            refine tk_ 24 70 33094783 hS ?_
            refine one_ (i := 7) (N := some 53) (bb 30 33094911) rfl rfl (by kernel_rfl) (by decide) (fun K hK => ?_)
            refine gs_ Tryd.func41 #[.int .i64 x.f0] ?_
            (with_reducible refine (spec_l1Dec.calls k _ _ _ (HDEC.o _ (by omega) (by omega))).mono ?_)
            rw [HK0.o]
            rintro en wt53 ⟨rfl, hb⟩
            refine ⟨_, rfl, ?_⟩
            replace HO := q_ (own_b HO.o hb); replace B5 := lb_ B5 hb; replace BK1 := lb_ BK1 hb; replace HB := sb_ HB hb; clear hb
            refine hK.out _ _ ⟨(blk_cell B5.o 1).trans rfl, mv_ (HB.o) HX0.o, mv_ HB.o HX1.o, mv_ HB.o HX2.o⟩ (fun hS => ?_)
            clear hK K
            refine no_ (some 53) ?_
            refine pk_ 8 54 33095167 ?_
            refine pk_ 9 55 33095679 ?_
            refine one_ (i := 16) (N := some 62) (bb 30 33161215) rfl rfl (by kernel_rfl) (by decide) (fun K hK => ?_)
            refine gs_ Tryd.func41 #[.int .i64 x.f1] ?_
            (with_reducible refine (spec_l1Dec.calls k _ _ _ (HDEC.o _ (by omega) (by omega))).mono ?_)
            rw [HK1.o]
            rintro en wt62 ⟨rfl, hb⟩
            refine ⟨_, rfl, ?_⟩
            replace HO := q_ (own_b HO.o hb); replace B5 := lb_ B5 hb; replace BK1 := lb_ BK1 hb; replace HB := sb_ HB hb; clear hb
            refine hK.out _ _ ⟨(blk_cell B5.o 1).trans rfl, mv_ (HB.o) HX0.o, mv_ HB.o HX1.o, mv_ HB.o HX2.o⟩ (fun hS => ?_)
            clear hK K
            refine no_ (some 62) ?_
            refine pk_ 17 63 33292287 ?_
            refine pk_ 18 64 33554431 ?_
            refine one_ (i := 25) (N := some 71) (bb 30 67108863) rfl rfl (by kernel_rfl) (by decide) (fun K hK => ?_)
            refine gs_ Tryd.func41 #[.int .i64 x.f2] ?_
            (with_reducible refine (spec_l1Dec.calls k _ _ _ (HDEC.o _ (by omega) (by omega))).mono ?_)
            rw [HK2.o]
            rintro en wt71 ⟨rfl, hb⟩
            refine ⟨_, rfl, ?_⟩
            replace HO := q_ (own_b HO.o hb); replace B5 := lb_ B5 hb; replace BK1 := lb_ BK1 hb; replace HB := sb_ HB hb; clear hb
            refine hK.out _ _ ⟨(blk_cell B5.o 1).trans rfl, mv_ (HB.o) HX0.o, mv_ HB.o HX1.o, mv_ HB.o HX2.o⟩ (fun hS => ?_)
            clear hK K
            refine no_ (some 71) ?_
            refine pk_ 26 72 134217727 ?_
            refine pk_ 27 73 268435455 ?_
            refine one_ (i := 28) (N := some 74) (bb 30 536870911) rfl rfl (by kernel_rfl) (by decide) (fun K hK => ?_)
            refine step_append_str (w0 := w) w.heap.size ?r1_ (.tmp 46) (.tmp 73) 51 9 5 ?r2_ Tryd.underlying51 Tryd.underlying9 infoU8_ _ (bytesOf sj) ?r3_ ?r4_ ?r5_ HO.o HB.o (below_size HB.o) ?aL ?_
            (case r1_ => rfl)
            (case r2_ => rfl)
            (case r4_ => rfl)
            (case r5_ => rfl)
            (case aL => rw [bytesOf_length]; simp only [ByteArray.size_append, zE, zF, zG, zD]; omega)
            intro v9 w9 ho hb hgr
            replace B5 := q_ (blk_grown B5.o hgr (own_ne HO.o B5.o (by decide))); replace BK1 := q_ (blk_grown BK1.o hgr (own_ne HO.o BK1.o (by decide)))
            replace HO := q_ ho; replace HB := q_ hb
            clear ho hb hgr
            refine hK.out _ _ ⟨(blk_cell B5.o 1).trans rfl, mv_ (HB.o) HX0.o, mv_ HB.o HX1.o, mv_ HB.o HX2.o⟩ (fun hS => ?_)
            clear hK K
            refine no_ (some 74) ?_
            refine pk_ 29 3 1073741823 ?_
            refine done_ (by kernel_rfl) ?_
            clear hS e1 e2 e3 e4 e5 e6
            go_wp2_with fail
            go_roundg (b.f1.length - (j + 1))
            case measure => omega
            case rel => exact ⟨j + 1, by go_num, by omega, by omega, ⟨by unfold OW; rw [HCJ.o, HSCJ.o, HAT.o, bytesOf_add]; exact HO.o⟩, B5, BK1, HB⟩
          · have ej : j = b.f1.length := by omega
            subst ej
            have hltz : decide ((b.f1.length : Int) < (b.f1.length : Int)) = false := decide_eq_false (by omega)
            clear hgj hj hlj
            have hsj := armsT_size s1 b.f1 HBR.o.2.2.2 b.f1.length (Nat.le_refl _)
            have hbt : blockT code (kk : Int) b = armsT s1 b.f1 b.f1.length ++ elseT b.f2 := by rw [HS1.o]; rfl
            generalize armsT s1 b.f1 b.f1.length = sj at *
            have hal := HBR.o.2.2.1
            obtain ⟨he0, he1⟩ := HBR.o.2.1
            have hde := dec_few b.f2 he0 (by omega)
            have het : elseT b.f2 = (⟨#[32, 32, 101, 108, 115, 101, 32, 115]⟩ ++ dec b.f2) ++ ⟨#[10]⟩ := rfl
            generalize hke : dec b.f2 = de at *
            have HET := q_ het; have HKE := q_ hke; have HBT := q_ hbt; clear het hke hbt
            have e1 : ((⟨#[32, 32, 101, 108, 115, 101, 32, 115]⟩ : ByteArray).size + de.size ≤ 9223372036854775807) = True := eq_true (by rw [zH]; omega)
            have e2 : ((((⟨#[32, 32, 101, 108, 115, 101, 32, 115]⟩ : ByteArray) ++ de).size + (⟨#[10]⟩ : ByteArray).size) ≤ 9223372036854775807) = True := eq_true (by simp only [ByteArray.size_append, zH, zD]; omega)
            go_upto_region 16 with (first
              | (go_at_call 41; (with_reducible refine (spec_l1Dec.calls k _ _ _ (HDEC.o _ (by omega) (by omega))).mono ?_); rw [HKE.o]; rintro en w8_ ⟨rfl, hb⟩; replace HO := q_ (own_b HO.o hb); replace B5 := lb_ B5 hb; replace BK1 := lb_ BK1 hb; replace HB := sb_ HB hb; clear hb)
              | ((with_reducible refine gate_builtin (b := .append) (xs := #[.tmp 75, .tmp 80]) rfl ?_); at_builtin; go_loud (refine print_append_str (w0 := w) w.heap.size rfl (.tmp 75) (.tmp 80) 51 9 5 rfl Tryd.underlying51 Tryd.underlying9 infoU8_ _ (bytesOf sj) ((⟨#[32, 32, 101, 108, 115, 101, 32, 115]⟩ ++ de) ++ ⟨#[10]⟩) rfl rfl HO.o HB.o (below_size HB.o) ?aL ?_; (case aL => rw [bytesOf_length]; simp only [ByteArray.size_append, zH, zD]; omega); intro v9 w9 ho hb hgr; replace B5 := q_ (blk_grown B5.o hgr (own_ne HO.o B5.o (by decide))); replace BK1 := q_ (blk_grown BK1.o hgr (own_ne HO.o BK1.o (by decide))); replace HO := q_ ho; replace HB := q_ hb; clear ho hb hgr; (try clear hq0 hq1 hq2 hqf0 hqf1 hqf2); obtain ⟨hq0, hq1, hq2, hqf0, hqf1, hqf2⟩ := d3_ B5)))
            have hc2 : code2 = sj ++ ((⟨#[32, 32, 101, 108, 115, 101, 32, 115]⟩ ++ de) ++ ⟨#[10]⟩) := by rw [HSC.o, HBT.o, HET.o]
            rw [← bytesOf_add, ← hc2] at HO
            have hl2 := bytesOf_length code2
            obtain ⟨A3_, c3_, rfl⟩ := own_slice HO.o
            by_cases hz : code2.size ≤ 100000
            · have dz : decide (((bytesOf code2).length : Int) > 100000) = false := decide_eq_false (by rw [hl2]; omega)
              clear hc2 hl2
              go_wp2_with fail
              go_roundg (l.length - (kk + 1))
              case measure => omega
              case rel => exact ⟨kk + 1, by go_num, by omega, by omega, ⟨by rw [HCU.o]; exact hz⟩, ⟨by unfold OW; rw [HCU.o]; exact HO.o⟩, BK1, HB⟩
            · have dz : decide (((bytesOf code2).length : Int) > 100000) = true := decide_eq_true (by rw [hl2]; omega)
              have hbig := codeT_grows l (kk + 1) (l.length - (kk + 1))
              rw [show kk + 1 + (l.length - (kk + 1)) = l.length by omega, HCU.o] at hbig
              have HRE : J0 (R = ⟨#[]⟩) := ⟨by rw [HRR.o, if_neg (by omega)]⟩
              clear hc2 hl2
              go_wp2_with fail
              go_ret
              exact ⟨by rw [HRE.o]; rfl, be_ HB.o⟩
    · have e1 : kk = l.length := by omega
      subst e1
      have hltz : decide ((l.length : Int) < (l.length : Int)) = false := decide_eq_false (by omega)
      clear hgg hkk hlt
      have hrr := HRR.o
      rw [if_pos HZ.o] at hrr
      have HRE := q_ hrr
      clear hrr
      have hcv := own_string (P := Tryd.prog) Tryd.underlying51 Tryd.underlying5 Tryd.underlying9 HO.o
      rw [strOfNums_bytes] at hcv
      go_wp2_with fail
      go_ret
      exact ⟨by rw [HRE.o]; rfl, be_ HB.o⟩
def wcT (l : List S68) : ByteArray := if codeB l = true then (if (codeT l l.length).size ≤ 100000 then codeT l l.length else ⟨#[]⟩) else ⟨#[]⟩
theorem WriteCodeI_none (A : Option Addr) (c : Nat) (l : List S68) (hno : codeB l = false) (w : World) (hr : Kd.C k68 w A l.length l) (hc : l.length ≤ c) :
    Calls Tryd.prog 12 #[.agg #[.slice A l.length c]] w fun e w' => e = .returned (.string ⟨#[]⟩) ∧ Below w.heap.size w w' := by
  have HR := q_ hr; have HC := q_ hc; have HB := q_ (Below.refl w.heap.size w); have HY := q_ hno
  have T0 : J0 True := ⟨trivial⟩
  clear hr hc hno
  go_enter Tryd.func12, Tryd.ntmps12
  go_wp2_with (first
    | ((with_reducible refine gate_dst (N := 1) rfl ?_); clear T0; refine bx_ 1 #[.slice A l.length c] 29 ?_; intro g1 hg w1 hbox hb; have BK1 := q_ hbox; replace HB := sb_ HB hb; clear hb hbox hg; obtain ⟨hz0, hf0⟩ := d1_ BK1)
    | (go_at_call 43; (with_reducible refine (CodeOk_hand A c l _ (Kd.C_below HR.o (be_ HB.o)) HC.o).mono ?_); rw [HY.o]; rintro e w3 ⟨rfl, hb⟩; replace HB := sb_ HB hb; clear hb))
  go_ret
  exact ⟨rfl, HB.o⟩
theorem WriteCodeS_none (k : Nat) (A : Option Addr) (c : Nat) (l : List S68) (hcode : spec_CodeOk.f k l = some false) (w : World) (hr : Kd.C k68 w A l.length l) (hc : l.length ≤ c) :
    Calls Tryd.prog 10 #[.agg #[.slice A l.length c]] w fun e w' => e = .returned (.string ⟨#[]⟩) ∧ Below w.heap.size w w' := by
  have HR := q_ hr; have HC := q_ hc; have HB := q_ (Below.refl w.heap.size w); have HCO := q_ hcode
  have T0 : J0 True := ⟨trivial⟩
  clear hr hc hcode
  go_enter Tryd.func10, Tryd.ntmps10
  go_wp2_with (first
    | ((with_reducible refine gate_dst (N := 1) rfl ?_); clear T0; refine bx_ 1 #[.slice A l.length c] 29 ?_; intro g1 hg w1 hbox hb; have BK1 := q_ hbox; replace HB := sb_ HB hb; clear hb hbox hg; obtain ⟨hz0, hf0⟩ := d1_ BK1)
    | (go_at_call 40; (with_reducible refine (spec_CodeOk.calls k _ _ _ _ _ (Kd.C_below HR.o (be_ HB.o)) HC.o HCO.o).mono ?_); rintro e w3 ⟨rfl, hb⟩; replace HB := sb_ HB hb; clear hb))
  go_ret
  exact ⟨rfl, HB.o⟩
theorem WriteCodeI_hand (A : Option Addr) (c : Nat) (l : List S68) (w : World) (ht : Tab w) (hr : Kd.C k68 w A l.length l) (hc : l.length ≤ c) :
    Calls Tryd.prog 12 #[.agg #[.slice A l.length c]] w fun e w' => e = .returned (.string (wcT l)) ∧ Below w.heap.size w w' := by
  unfold wcT
  by_cases h : codeB l = true
  · rw [if_pos h]
    exact WriteCodeI_some A c l h w ht hr hc
  · rw [if_neg h]
    exact WriteCodeI_none A c l (Bool.not_eq_true _ ▸ h) w hr hc
theorem WriteCodeS_hand (k : Nat) (A : Option Addr) (c : Nat) (l : List S68) (hcode : spec_CodeOk.f k l = some (codeB l)) (hdec : ∀ n : Nat, n < 10000 → spec_l1Dec.f k (n : Int) = some (dec (n : Int))) (w : World) (hr : Kd.C k68 w A l.length l) (hc : l.length ≤ c) :
    Calls Tryd.prog 10 #[.agg #[.slice A l.length c]] w fun e w' => e = .returned (.string (wcT l)) ∧ Below w.heap.size w w' := by
  unfold wcT
  by_cases h : codeB l = true
  · rw [if_pos h]
    refine WriteCodeS_some k (fun _ _ => trivial) A c l h (by rw [hcode, h]) (fun n h0 h1 => ?_) w hr hc
    obtain ⟨u, rfl⟩ : ∃ u : Nat, n = (u : Int) := ⟨n.toNat, by omega⟩
    exact hdec u (by omega)
  · rw [if_neg h]
    exact WriteCodeS_none k A c l (by rw [hcode]; simpa using h) w hr hc
end Go.Proofs.YtlecpdpdcocibaaDoor.P
namespace Go.Proofs.YtlecpdpdcocibaaDoor.P
open Go.RowKit Go.Proofs.YtlecpdpdcocibaaDoorW.PrintWords Go.Proofs.YtlecpdpdcocibaaDoorW.PrintLast Go.Proofs.YtlecpdpdcocibaaDoorW.PrintMore
attribute [local go_sem] max2_int min2_int max_two min_two max_three min_three max_four min_four
set_option linter.unusedVariables false
set_option linter.unusedSimpArgs false
/-! ### impl_WriteCode: function 12 -/
def impl_WriteCode.f (l0_0 : List S68) : Option ByteArray := some (wcT l0_0)
theorem impl_WriteCode.calls (A0_0 : Option Addr) (c0_0 : Nat) (l0_0 : List S68) (r : ByteArray) (w : World) (ht : Tab w) (hr0_0 : Kd.C k68 w A0_0 l0_0.length l0_0) (hc0_0 : l0_0.length ≤ c0_0) (h : impl_WriteCode.f l0_0 = some r) :
    Calls Tryd.prog 12 #[.agg #[.slice A0_0 l0_0.length c0_0]] w fun e w' => e = .returned (.string r) ∧ Below w.heap.size w w' := by
  obtain rfl := Option.some.inj h
  exact WriteCodeI_hand A0_0 c0_0 l0_0 w ht hr0_0 hc0_0
end Go.Proofs.YtlecpdpdcocibaaDoor.P
