/- The law FnLaidOut holds for every call: part 6 of 6 of the proof (the row). Conditions: none beyond what the given row says. -/
import Derived.Test.YtlbjdpahhgokkaaMFnLaidOut0
import Derived.ChangeSlices
import Derived.ChangeArms
import Derived.Test.YtlbjdpahhgokkaaMFnLaidOut1
import Derived.Test.YtlbjdpahhgokkaaMFnLaidOut4
import Derived.Test.YtlbjdpahhgokkaaMFnLaidOut2
import Derived.Test.YtlbjdpahhgokkaaMFnLaidOut3
import Derived.SizedLaws
import Derived.Test.YtlbjdpahhgokkaaRows
import Derived.WalkKit
import Derived.ProofKit
import Derived.OpenShut
import Derived.ShutString
import Derived.ChangeOld
import Derived.Below
/- Arguments of plain data (nested slices and structs) read as the printed walks' kinds say, over any program whose types are as told. -/
namespace Go.Proofs.YtlbjdpahhgokkaaOpen
open Go.RowKit Go.ChangeShapes Go.WideShapes Go.Proofs.YtlbjdpahhgokkaaW.PrintWords
set_option linter.unusedVariables false
set_option linter.unusedSimpArgs false

structure Opens {α : Type} (P : Program) (t : TypeId) (k : Kd α) (G : α → Prop) : Prop where
  sz : P.cellsOf t = k.sz
  op : ∀ {H : Type} (enc : TypeId × Value → H) (w : World) (base : Nat) (spare : Nat → Bool) (held : Bool) (fuel : Nat) (cs : List Value) (x : DataW H × List MemPlace), DataW.trod enc P w base spare held fuel t cs = some x → ∃ v, k.K w v cs ∧ G v

variable {P : Program} {t e : TypeId}

theorem opens_int {k : IntKind} (ht : P.underlying t = some (.int k)) (hc : P.cellsOf t = 1) : Opens P t (Kd.int k) (fun n => (Lit.int k n).wf = true) where
  sz := hc
  op := fun enc w base spare held fuel cs x h => by
    obtain ⟨n, rfl, _, hw⟩ := DataW.trod_int ht h
    exact ⟨n, rfl, hw⟩
theorem opens_bool (ht : P.underlying t = some .bool) (hc : P.cellsOf t = 1) : Opens P t Kd.bool (fun _ => True) where
  sz := hc
  op := fun enc w base spare held fuel cs x h => by
    obtain ⟨b, rfl, _⟩ := DataW.trod_bool ht h
    exact ⟨b, rfl, trivial⟩
theorem opens_string (ht : P.underlying t = some .string) (hc : P.cellsOf t = 1) : Opens P t Kd.string (fun s => s.size ≤ maxLen) where
  sz := hc
  op := fun enc w base spare held fuel cs x h => by
    obtain ⟨s, rfl, _, hs⟩ := DataW.trod_string ht h
    exact ⟨s, rfl, hs⟩

theorem exists_list {α : Type} {p : Nat → α → Prop} : ∀ n, (∀ i, i < n → ∃ v, p i v) → ∃ xs : List α, xs.length = n ∧ ∀ i v, xs[i]? = some v → p i v
  | 0, _ => ⟨[], rfl, fun i v h => by simp at h⟩
  | n + 1, h => by
    obtain ⟨xs, hl, hx⟩ := exists_list n (fun i hi => h i (by omega))
    obtain ⟨v, hv⟩ := h n (by omega)
    refine ⟨xs ++ [v], by simp [hl], fun i u hu => ?_⟩
    by_cases hi : i < n
    · rw [List.getElem?_append_left (by omega)] at hu
      exact hx i u hu
    · rw [List.getElem?_append_right (by omega)] at hu
      have : i - xs.length = 0 := by
        have := (List.getElem?_eq_some_iff.1 hu).1
        simp at this
        omega
      rw [this] at hu
      have hi' : i = n := by omega
      subst hi'
      simp at hu
      subst hu
      exact hv

theorem opens_slice {α : Type} {k : Kd α} {G : α → Prop} (ht : P.underlying t = some (.slice e)) (hc : P.cellsOf t = 1) (h : Opens P e k G) : Opens P t (Kd.slice e k) (fun xs => xs.length ≤ maxLen ∧ ∀ x ∈ xs, G x) where
  sz := hc
  op := fun enc w base spare held fuel cs x hx => by
    rcases DataW.trod_slice ht hx with ⟨rfl, rfl⟩ | ⟨a, len, cap, elems, rest, n, _, rfl, _, _, hl, hm, hlen, hel, _, _⟩
    · exact ⟨[], ⟨none, 0, rfl, Nat.le_refl _, Kd.C_nil k w⟩, by simp, fun x hx => absurd hx List.not_mem_nil⟩
    · have each : ∀ i, i < len → ∃ v, G v ∧ ∃ c, c.length = k.sz ∧ k.K w v c ∧ ∀ j u, c[j]? = some u → w.cell? (a.add (i * k.sz + j)) = some u := by
        intro i hi
        have h1 := hel i hi
        rw [List.getElem?_eq_getElem (by omega), Option.bind_eq_some_iff, h.sz] at h1
        obtain ⟨c, hc1, hc2⟩ := h1
        obtain ⟨v, hv, hg⟩ := h.op enc w base spare held n c _ hc2
        obtain ⟨_, hcl, hcell⟩ := World.cells?_some hc1
        refine ⟨v, hg, c, hcl, hv, fun j u hu => ?_⟩
        have hj : j < k.sz := by
          have := (List.getElem?_eq_some_iff.1 hu).1
          omega
        rw [← Addr.add_add, hcell j hj]
        exact hu
      obtain ⟨xs, hxl, hx⟩ := exists_list len each
      have hmx : (maxLen : Nat) ≤ 9223372036854775807 := by unfold maxLen; omega
      refine ⟨xs, ⟨some a, cap, by rw [hxl], by omega, ?_⟩, by omega, fun x hx' => ?_⟩
      · refine ⟨rfl, by omega, fun _ => ⟨a, rfl, fun j p hp => ?_⟩⟩
        obtain ⟨_, c, h1, h2, h3⟩ := hx j p hp
        exact ⟨c, h1, h2, h3⟩
      · obtain ⟨i, hi⟩ := List.mem_iff_getElem?.1 hx'
        exact (hx i x hi).1

/-- A struct's fields from a cell on. -/
structure Fields {α : Type} (P : Program) (fs : List Field) (off : Nat) (k : Kd α) (G : α → Prop) : Prop where
  from_ : ∀ f ∈ fs, off ≤ f.offset
  op : ∀ {H : Type} (enc : TypeId × Value → H) (w : World) (base : Nat) (spare : Nat → Bool) (held : Bool) (n : Nat) (cs : List Value), cs.length = k.sz → (∀ f ∈ fs, ∃ y, DataW.trod enc P w base spare held n f.type ((cs.drop (f.offset - off)).take (P.cellsOf f.type)) = some y) → ∃ v, k.K w v cs ∧ G v

theorem fields_one {α : Type} {k : Kd α} {G : α → Prop} {f : Field} (h : Opens P f.type k G) : Fields P [f] f.offset k G where
  from_ := fun g hg => by rw [List.mem_singleton.1 hg]; exact Nat.le_refl _
  op := fun enc w base spare held n cs hl hf => by
    obtain ⟨y, hy⟩ := hf f (by simp)
    rw [Nat.sub_self, List.drop_zero, h.sz, ← hl, List.take_length] at hy
    exact h.op enc w base spare held n cs y hy
theorem fields_cons {α β : Type} {k : Kd α} {k' : Kd β} {G : α → Prop} {G' : β → Prop} {f : Field} {fs : List Field} (h : Opens P f.type k G) (hs : Fields P fs (f.offset + k.sz) k' G') : Fields P (f :: fs) f.offset (Kd.pair k k') (fun x => G x.1 ∧ G' x.2) where
  from_ := fun g hg => by
    rcases List.mem_cons.1 hg with rfl | hg
    · exact Nat.le_refl _
    · have := hs.from_ g hg
      omega
  op := fun enc w base spare held n cs hl hf => by
    have hl' : cs.length = k.sz + k'.sz := hl
    obtain ⟨y, hy⟩ := hf f (by simp)
    rw [Nat.sub_self, List.drop_zero, h.sz] at hy
    obtain ⟨v, hv, hg⟩ := h.op enc w base spare held n _ y hy
    obtain ⟨u, hu, hg'⟩ := hs.op enc w base spare held n (cs.drop k.sz) (by rw [List.length_drop]; omega) (fun g hg => by
      obtain ⟨y, hy⟩ := hf g (by simp [hg])
      refine ⟨y, ?_⟩
      have := hs.from_ g hg
      rw [List.drop_drop, show k.sz + (g.offset - (f.offset + k.sz)) = g.offset - f.offset by omega]
      exact hy)
    exact ⟨(v, u), ⟨cs.take k.sz, cs.drop k.sz, (List.take_append_drop _ _).symm, hv, hu⟩, hg, hg'⟩
theorem opens_struct {α : Type} {k : Kd α} {G : α → Prop} {fs : Array Field} (ht : P.underlying t = some (.struct fs)) (hc : P.cellsOf t = k.sz) (h : Fields P fs.toList 0 k G) : Opens P t k G where
  sz := hc
  op := fun enc w base spare held fuel cs x hx => by
    obtain ⟨xs, n, _, _, hl, hlen, hf⟩ := DataW.trod_struct ht hx
    refine h.op enc w base spare held n cs (hl.trans hc) (fun f hf' => ?_)
    obtain ⟨i, hi⟩ := List.mem_iff_getElem?.1 hf'
    rw [Array.getElem?_toList] at hi
    have h1 := hf i f hi
    have : i < fs.size := by
      have := (Array.getElem?_eq_some_iff.1 hi).1
      exact this
    rw [List.getElem?_eq_getElem (by omega)] at h1
    rw [Nat.sub_zero]
    exact ⟨_, h1⟩
theorem opens_iso {α β : Type} {k : Kd α} {G : α → Prop} (f : β → α) (g : α → β) (hfg : ∀ x, f (g x) = x) (h : Opens P t k G) : Opens P t (Kd.iso k f) (fun y => G (f y)) where
  sz := h.sz
  op := fun enc w base spare held fuel cs x hx => by
    obtain ⟨v, hv, hg⟩ := h.op enc w base spare held fuel cs x hx
    exact ⟨g v, by show k.K w (f (g v)) cs; rw [hfg]; exact hv, by rw [hfg]; exact hg⟩
theorem opens_imp {α : Type} {k : Kd α} {G G' : α → Prop} (h : Opens P t k G) (hg : ∀ x, G x → G' x) : Opens P t k G' where
  sz := h.sz
  op := fun enc w base spare held fuel cs x hx => by
    obtain ⟨v, hv, hh⟩ := h.op enc w base spare held fuel cs x hx
    exact ⟨v, hv, hg v hh⟩
end Go.Proofs.YtlbjdpahhgokkaaOpen
/- What the printed Layout of the reference answers: over any items and brackets it ends, and its answer is that of a plain fold over the items. -/
namespace Go.Proofs.Ytlbjdpahhgokkaa.P
open Go.RowKit Go.Proofs.YtlbjdpahhgokkaaW.PrintWords Go.Proofs.YtlbjdpahhgokkaaW.PrintLast Go.Proofs.YtlbjdpahhgokkaaW.PrintMore Go.Proofs.YtlbjdpahhgokkaaEv
set_option linter.unusedVariables false
set_option linter.unusedSimpArgs false
theorem lay_l2 (x : S46) : ∀ (n : Nat) (out : List S46), out.length + n ≤ 1000000 → Ev (fun k => spec_Layout.l2 k out (n : Int) x.f0 x.f1 x.f2) (out ++ List.replicate n (madeI (-3) x), 0, -1) := by
  intro n
  induction n with
  | zero =>
    intro out _
    rw [ev_succ]
    simp [spec_Layout.l2, ev_some]
  | succ n ih =>
    intro out h
    rw [ev_succ]
    simp only [spec_Layout.l2, spec_l16Made.f, Option.bind_some, ev_ite]
    rw [if_pos (by omega), if_pos (by omega), wrap_id (x := ((n + 1 : Nat) : Int) - 1) (by omega) (by omega), show ((n + 1 : Nat) : Int) - 1 = (n : Int) by omega]
    refine ev_congr (ih _ (by simp; omega)) ?_
    rw [List.replicate_succ, List.append_assoc]
    rfl
theorem lay_l1 (l : List S46) (op cl : List Int) (d i : Int) (x : S46) (hx : 1 ≤ x.f2) (r : List S46 × Int × Int) : ∀ (n : Nat) (st : List Int) (out : List S46), st.length = n + 1 → st[0]? = some 1 → out.length + st.length ≤ 1000000 →
    (lastC (popR x n st out).1 = x.f2 → Ev (fun k => spec_Layout.j6 k l [] (popR x n st out).2 (popR x n st out).1 d i op cl x.f0 x.f1 x.f2) r) → (lastC (popR x n st out).1 ≠ x.f2 → r = ([], 2, i)) →
    Ev (fun k => spec_Layout.l1 k l [] out st d i op cl x.f0 x.f1 x.f2) r := by
  have fin : ∀ (st : List Int) (out : List S46), 1 ≤ st.length → out.length + st.length ≤ 1000000 → ¬ lastC st > x.f2 → (lastC st = x.f2 → Ev (fun k => spec_Layout.j6 k l [] out st d i op cl x.f0 x.f1 x.f2) r) → (lastC st ≠ x.f2 → r = ([], 2, i)) → Ev (fun k => spec_Layout.l1 k l [] out st d i op cl x.f0 x.f1 x.f2) r := by
    intro st out h1 h2 h3 h4 h5
    rw [ev_succ]
    simp only [spec_Layout.l1, ev_ite]
    rw [wrap_id (x := (st.length : Int) - 1) (by omega) (by omega), if_pos (by omega), if_pos (by omega), if_neg h3]
    by_cases h : lastC st = x.f2
    · rw [if_pos h]
      exact h4 h
    · rw [if_neg h]
      exact ev_some.2 (h5 h).symm
  intro n
  induction n with
  | zero =>
    intro st out hl h0 hs h4 h5
    refine fin st out (by omega) hs ?_ h4 h5
    have := (popR_keeps x hx 0 st out hl h0).2.2.2.1
    simp only [popR] at this
    omega
  | succ n ih =>
    intro st out hl h0 hs h4 h5
    simp only [popR] at h4 h5
    by_cases hc : lastC st > x.f2
    · rw [if_pos hc] at h4 h5
      rw [ev_succ]
      simp only [spec_Layout.l1, spec_l16Made.f, Option.bind_some, ev_ite]
      rw [wrap_id (x := (st.length : Int) - 1) (by omega) (by omega), if_pos (by omega), if_pos (by omega), if_pos hc, if_pos (by omega), if_pos (by omega), show ((st.length : Int) - 1).toNat = st.length - 1 by omega]
      exact ih _ _ (by simp; omega) (by rw [List.getElem?_take, if_pos (by omega)]; exact h0) (by simp; omega) h4 h5
    · rw [if_neg hc] at h4 h5
      exact fin st out (by omega) hs hc h4 h5
/-- A line's first item: what stands ahead of it. -/
theorem lay_j2 (l : List S46) (op cl : List Int) (d : Int) (i : Nat) (x : S46) (hx : 1 ≤ x.f2) (hi : i ≤ l.length) (hl : l.length ≤ 5000) (p : Option S46) (hp : (i = 0 → p = none) ∧ (0 < i → p = some (rd_T46 l ((i - 1 : Nat) : Int)))) (r : List S46 × Int × Int) (st : List Int) (out : List S46) (h1 : 1 ≤ st.length) (h0 : st[0]? = some 1) (hs : out.length + st.length ≤ 100000)
    (h4 : lastC (begR x st (nlR p out)).1 = x.f2 → Ev (fun k => spec_Layout.j6 k l [] (begR x st (nlR p out)).2 (begR x st (nlR p out)).1 d i op cl x.f0 x.f1 x.f2) r) (h5 : lastC (begR x st (nlR p out)).1 ≠ x.f2 → r = ([], 2, (i : Int))) :
    Ev (fun k => spec_Layout.j2 k l [] out st d i true op cl x.f0 x.f1 x.f2) r := by
  have j3 : ∀ o : List S46, o.length + st.length ≤ 100001 → (lastC (begR x st o).1 = x.f2 → Ev (fun k => spec_Layout.j6 k l [] (begR x st o).2 (begR x st o).1 d i op cl x.f0 x.f1 x.f2) r) → (lastC (begR x st o).1 ≠ x.f2 → r = ([], 2, (i : Int))) → Ev (fun k => spec_Layout.j3 k l [] o st d i op cl x.f0 x.f1 x.f2) r := by
    intro o ho h4 h5
    rw [ev_succ]
    simp only [spec_Layout.j3, spec_l16Made.f, Option.bind_some, ev_ite]
    rw [wrap_id (x := (st.length : Int) - 1) (by omega) (by omega), if_pos (by omega), if_pos (by omega)]
    unfold begR at h4 h5
    by_cases hc : x.f2 > lastC st
    · rw [if_pos hc] at h4 h5
      rw [if_pos hc, if_pos (by omega), if_pos (by omega), ev_succ]
      simp only [spec_Layout.j4]
      exact lay_l1 l op cl d i x hx r _ _ _ (by simp) (by rw [List.getElem?_append_left (by omega)]; exact h0) (by simp; omega) h4 h5
    · rw [if_neg hc] at h4 h5
      rw [if_neg hc, ev_succ]
      simp only [spec_Layout.j4]
      exact lay_l1 l op cl d i x hx r _ _ _ (by omega) h0 (by omega) h4 h5
  rw [ev_succ]
  simp only [spec_Layout.j2, spec_l16Made.f, Option.bind_some, ev_ite, if_true]
  by_cases hz : i = 0
  · rw [if_neg (by omega)]
    rw [hp.1 hz] at h4 h5
    exact j3 out (by omega) h4 h5
  · rw [if_pos (by omega), wrap_id (x := (i : Int) - 1) (by omega) (by omega), if_pos (by omega), if_pos (by omega), if_pos (by omega), show (i : Int) - 1 = ((i - 1 : Nat) : Int) by omega]
    rw [hp.2 (by omega)] at h4 h5
    exact j3 _ (by simp; omega) h4 h5
/-- An item behind what stands ahead of it. -/
theorem lay_j6 (l : List S46) (op cl : List Int) (hop : op.length ≤ 1048576) (hcl : cl.length ≤ 1048576) (d : Int) (i : Nat) (hd0 : 0 ≤ d) (hd1 : d ≤ i) (hl : l.length ≤ 5000) (hi : i < l.length) (x : S46) (r : List S46 × Int × Int) (st : List Int) (out : List S46) (hs : out.length ≤ 1000000)
    (h3 : depR op cl x.f0 d = none → r = ([], 3, (i : Int))) (h4 : ∀ d1, depR op cl x.f0 d = some d1 → Ev (fun k => spec_Layout.l0 k l [] (out ++ [x]) st d1 ((i + 1 : Nat) : Int) op cl) r) :
    Ev (fun k => spec_Layout.j6 k l [] out st d i op cl x.f0 x.f1 x.f2) r := by
  rw [ev_succ]
  simp only [spec_Layout.j6]
  rw [ev_bind (spec_l1Has_ev cl x.f0 (by omega))]
  simp only [ev_ite]
  unfold depR at h3 h4
  rw [wrap_succ hi (by omega)]
  by_cases hc : hasB cl x.f0 = true
  · rw [if_pos hc] at h3 h4 ⊢
    by_cases hd : d = 0
    · rw [if_pos hd] at h3 ⊢
      exact ev_some.2 (h3 rfl).symm
    · rw [if_neg hd] at h4 ⊢
      rw [ev_bind (spec_l1Has_ev op x.f0 (by omega))]
      simp only [ev_ite]
      rw [wrap_id (x := d - 1) (by omega) (by omega), wrap_id (x := d - 1 + 1) (by omega) (by omega)]
      have := h4 _ rfl
      by_cases ho : hasB op x.f0 = true
      · rw [if_pos ho] at this ⊢
        rw [if_pos (by omega)]
        exact this
      · rw [if_neg ho] at this ⊢
        rw [if_pos (by omega)]
        exact this
  · rw [if_neg hc] at h4 ⊢
    rw [ev_bind (spec_l1Has_ev op x.f0 (by omega))]
    simp only [ev_ite]
    rw [wrap_id (x := d + 1) (by omega) (by omega)]
    have := h4 _ rfl
    by_cases ho : hasB op x.f0 = true
    · rw [if_pos ho] at this ⊢
      rw [if_pos (by omega)]
      exact this
    · rw [if_neg ho] at this ⊢
      rw [if_pos (by omega)]
      exact this
theorem lay_l0 (l : List S46) (op cl : List Int) (hop : op.length ≤ 1048576) (hcl : cl.length ≤ 1048576) (hl : l.length ≤ 5000) (hcol : ∀ i, i < l.length → 1 ≤ (rd_T46 l (i : Int)).f2) : ∀ i, i ≤ l.length → ∀ (p : Option S46) (out : List S46) (st : List Int) (d : Int), (i = 0 → p = none) → (0 < i → p = some (rd_T46 l ((i - 1 : Nat) : Int))) → 1 ≤ st.length → st[0]? = some 1 → out.length + st.length ≤ 4 * i + 1 → 0 ≤ d → d ≤ i →
    Ev (fun k => spec_Layout.l0 k l [] out st d (i : Int) op cl) (layR op cl p (l.drop i) out st d i) := by
  refine down l.length _ ?_ ?_
  · intro p out st d hp0 hp1 h1 h0 hs hd0 hd1
    rw [ev_succ, List.drop_length]
    simp only [spec_Layout.l0, layR, spec_l16Made.f, Option.bind_some, ev_ite, ev_some]
    rw [if_neg (by omega)]
    by_cases hd : d = 0
    · rw [if_pos hd, if_pos hd]
      by_cases hz : l.length = 0
      · rw [if_neg (by omega), hp0 hz]
        rfl
      · rw [if_pos (by omega), wrap_id (x := (l.length : Int) - 1) (by omega) (by omega), if_pos (by omega), if_pos (by omega), if_pos (by omega), wrap_id (x := (st.length : Int) - 1) (by omega) (by omega), hp1 (by omega), show (l.length : Int) - 1 = ((l.length - 1 : Nat) : Int) by omega, show (st.length : Int) - 1 = ((st.length - 1 : Nat) : Int) by omega]
        exact lay_l2 _ _ _ (by simp; omega)
    · rw [if_neg hd, if_neg hd]
  · intro i hi ih p out st d hp0 hp1 h1 h0 hs hd0 hd1
    rw [ev_succ, drop_cons l z46 i hi]
    have hr : l.getD i z46 = rd_T46 l i := by simp [rd_T46]
    rw [hr]
    have hx := hcol i hi
    simp only [spec_Layout.l0, layR, ev_ite]
    rw [if_pos (by omega), if_pos (by omega)]
    generalize hT : l.drop (i + 1) = T at *
    have hq1 : ∀ q : S46, (i + 1 = 0 → some q = none) := fun q h => by omega
    have put : ∀ (o : List S46) (s : List Int), 1 ≤ s.length → s[0]? = some 1 → o.length + s.length ≤ 4 * i + 4 → Ev (fun k => spec_Layout.j6 k l [] o s d i op cl (rd_T46 l i).f0 (rd_T46 l i).f1 (rd_T46 l i).f2) (match depR op cl (rd_T46 l i).f0 d with
          | none => ([], 3, (i : Int))
          | some d1 => layR op cl (some (rd_T46 l i)) T (o ++ [rd_T46 l i]) s d1 (i + 1)) := by
      intro o s g1 g0 gs
      refine lay_j6 l op cl hop hcl d i hd0 hd1 hl hi _ _ s o (by omega) (fun h => by rw [h]) (fun d1 h => ?_)
      rw [h]
      have := depR_bound hd0 h
      have key := ih (some (rd_T46 l i)) (o ++ [rd_T46 l i]) s d1 (fun h => by omega) (fun _ => by rw [Nat.add_sub_cancel]) g1 g0 (by simp; omega) this.1 (by omega)
      simpa using key
    have j2f : Ev (fun k => spec_Layout.j2 k l [] out st d i false op cl (rd_T46 l i).f0 (rd_T46 l i).f1 (rd_T46 l i).f2) (match depR op cl (rd_T46 l i).f0 d with
          | none => ([], 3, (i : Int))
          | some d1 => layR op cl (some (rd_T46 l i)) T (out ++ [rd_T46 l i]) st d1 (i + 1)) := by
      rw [ev_succ]
      simp only [spec_Layout.j2, Bool.false_eq_true, if_false]
      exact put out st h1 h0 (by omega)
    have hnl : (nlR p out).length ≤ out.length + 1 := by
      unfold nlR
      split <;> simp
    have j2t : Ev (fun k => spec_Layout.j2 k l [] out st d i true op cl (rd_T46 l i).f0 (rd_T46 l i).f1 (rd_T46 l i).f2) (if lastC (begR (rd_T46 l i) st (nlR p out)).1 = (rd_T46 l i).f2 then
        (match depR op cl (rd_T46 l i).f0 d with
          | none => ([], 3, (i : Int))
          | some d1 => layR op cl (some (rd_T46 l i)) T ((begR (rd_T46 l i) st (nlR p out)).2 ++ [rd_T46 l i]) (begR (rd_T46 l i) st (nlR p out)).1 d1 (i + 1))
      else ([], 2, (i : Int))) := by
      obtain ⟨a, b, c, e⟩ := begR_keeps (rd_T46 l i) hx st (nlR p out) h1 h0
      refine lay_j2 l op cl d i _ hx (by omega) hl p ⟨hp0, hp1⟩ _ st out h1 h0 (by omega) (fun h => ?_) (fun h => ?_)
      · rw [if_pos h]
        exact put _ _ b a (by omega)
      · rw [if_neg h]
    by_cases hd : d = 0
    · rw [if_pos hd]
      by_cases hz : i = 0
      · rw [if_pos (by omega), if_pos ⟨hd, by rw [hp0 hz]; rfl⟩]
        exact j2t
      · rw [if_neg (by omega), wrap_id (x := (i : Int) - 1) (by omega) (by omega), if_pos (by omega), if_pos (by omega), show (i : Int) - 1 = ((i - 1 : Nat) : Int) by omega]
        have hnew : newR p (rd_T46 l i) = decide ((rd_T46 l i).f1 > (rd_T46 l ((i - 1 : Nat) : Int)).f1) := by rw [hp1 (by omega)]; rfl
        rw [← hnew]
        cases hn : newR p (rd_T46 l i)
        · rw [if_neg (by simp)]
          exact j2f
        · rw [if_pos ⟨hd, rfl⟩]
          exact j2t
    · rw [if_neg hd, if_neg (fun h => hd h.1)]
      exact j2f
theorem spec_Layout_of (l : List S46) (op cl : List Int) (hop : op.length ≤ 1048576) (hcl : cl.length ≤ 1048576) (hb : Ev (fun k => spec_l16Brackets.f k op cl) (bracketsB op cl)) : Ev (fun k => spec_Layout.f k l op cl) (layB l op cl) := by
  unfold spec_Layout.f layB
  simp only [Option.bind_some]
  rw [ev_bind (spec_l16Items_ev l)]
  simp only [ev_ite]
  have bad : Ev (fun k => spec_Layout.j0 k l [] true op cl) ([], 1, -1) := by
    rw [ev_succ]
    simp only [spec_Layout.j0, if_true]
    exact ev_some.2 rfl
  cases hi : itemsB l
  · rw [if_neg (by simp), Bool.false_and, if_neg (by simp)]
    exact bad
  · rw [if_pos rfl, ev_bind hb, Bool.true_and]
    cases hbb : bracketsB op cl
    · rw [if_neg (by simp)]
      exact bad
    · rw [if_pos rfl, ev_succ]
      simp only [spec_Layout.j0, Bool.not_true, Bool.false_eq_true, if_false]
      simp only [itemsB, Bool.and_eq_true, decide_eq_true_eq] at hi
      have := lay_l0 l op cl hop hcl hi.1 (fun i h => itemsR_col l 0 hi.2 _ (by
        unfold rd_T46
        rw [List.getD_eq_getElem?_getD, Int.toNat_natCast, List.getElem?_eq_getElem h]
        exact List.getElem_mem _)) 0 (by omega) none [] [1] 0 (fun _ => rfl) (fun h => by omega) (by simp) rfl (by simp) (by omega) (by omega)
      simpa using this
end Go.Proofs.Ytlbjdpahhgokkaa.P
/- What the reference's check of brackets answers. -/
namespace Go.Proofs.Ytlbjdpahhgokkaa.P
open Go.RowKit Go.Proofs.YtlbjdpahhgokkaaW.PrintWords Go.Proofs.YtlbjdpahhgokkaaW.PrintLast Go.Proofs.YtlbjdpahhgokkaaW.PrintMore Go.Proofs.YtlbjdpahhgokkaaEv
set_option linter.unusedVariables false
set_option linter.unusedSimpArgs false
theorem spec_l16Brackets_ev (op cl : List Int) (hop : op.length ≤ 1048576) (hcl : cl.length ≤ 1048576) : Ev (fun k => spec_l16Brackets.f k op cl) (bracketsB op cl) := by
  have bad : Ev (fun k => spec_l16Brackets.j0 k true op cl) false := by
    rw [ev_succ]
    simp only [spec_l16Brackets.j0, if_true]
    exact ev_some.2 rfl
  have good : Ev (fun k => spec_l16Brackets.j0 k false op cl) (!(op.any fun k => hasB cl k)) := by
    rw [ev_succ]
    simp only [spec_l16Brackets.j0, Bool.false_eq_true, if_false]
    have key := ev_loop op.length (fun k i => spec_l16Brackets.l0 k (i : Nat) op cl) (fun i => !((op.drop i).any fun k => hasB cl k)) ?_ ?_ 0 (by omega)
    · exact key
    · rw [ev_succ]
      simp [spec_l16Brackets.l0, ev_some]
    · intro i hi ih
      rw [ev_succ, any_drop op 0 _ i hi, rd_nat]
      simp only [spec_l16Brackets.l0, ev_ite, ev_some]
      rw [if_pos (by omega), if_pos (by omega), wrap_succ hi (by omega), ev_bind (spec_l1Has_ev cl _ (by omega))]
      simp only [ev_ite, ev_some]
      cases h : hasB cl (rd op i)
      · rw [if_neg (by simp), Bool.false_or]
        exact ih
      · rw [if_pos rfl]
        rfl
  unfold spec_l16Brackets.f bracketsB
  rw [ev_bind (spec_l16Kinds_ev op)]
  simp only [ev_ite]
  cases h1 : kindsB op
  · rw [if_neg (by simp)]
    exact bad
  · rw [if_pos rfl, ev_bind (spec_l16Kinds_ev cl)]
    cases h2 : kindsB cl
    · exact bad
    · simpa using good
theorem spec_Layout_ev (l : List S46) (op cl : List Int) (hop : op.length ≤ 1048576) (hcl : cl.length ≤ 1048576) : Ev (fun k => spec_Layout.f k l op cl) (layB l op cl) := spec_Layout_of l op cl hop hcl (spec_l16Brackets_ev op cl hop hcl)
end Go.Proofs.Ytlbjdpahhgokkaa.P
/- What the printed NestOf of the program answers. -/
namespace Go.Proofs.Ytlbjdpahhgokkaa.P
open Go.RowKit Go.Proofs.YtlbjdpahhgokkaaW.PrintWords Go.Proofs.YtlbjdpahhgokkaaW.PrintLast Go.Proofs.YtlbjdpahhgokkaaEv
set_option linter.unusedVariables false
set_option linter.unusedSimpArgs false

def turn (kind : Int) : Int := if kind = -2 then 1 else if kind = -3 then -1 else 0
def nestR (out : List Int) (n : Int) : List S46 → List Int × Bool
  | [] => if n = 0 then (out, true) else ([], false)
  | x :: xs => if n + turn x.f0 < 0 then ([], false) else nestR (out ++ [n]) (n + turn x.f0) xs
def nestB (l : List S46) : List Int × Bool := if 5000 < l.length then ([], false) else nestR [] 0 l

theorem nestR_length (xs : List S46) : ∀ (out : List Int) (n : Int), (nestR out n xs).1.length ≤ out.length + xs.length := by
  induction xs with
  | nil => intro out n; unfold nestR; split <;> simp
  | cons x xs ih =>
    intro out n
    unfold nestR
    split
    · simp
    · have := ih (out ++ [n]) (n + turn x.f0)
      simp at this ⊢
      omega
theorem nestB_length (l : List S46) : (nestB l).1.length ≤ 5000 := by
  unfold nestB
  split
  · simp
  · have := nestR_length l [] 0
    simp at this
    omega

theorem impl_NestOf_ev (l : List S46) : Ev (fun k => impl_NestOf.f k l) (nestB l) := by
  unfold impl_NestOf.f nestB
  simp only [ev_ite]
  by_cases h5 : 5000 < l.length
  · rw [if_pos (by omega), if_pos h5]
    exact ev_some.2 rfl
  · rw [if_neg (by omega), if_neg h5]
    have h := down l.length (fun i => ∀ (out : List Int) (n : Int), out.length = i → 0 ≤ n → n ≤ i → Ev (fun k => impl_NestOf.l0 k out n l l.length (i : Nat)) (nestR out n (l.drop i))) ?_ ?_ 0 (by omega) [] 0 rfl (by omega) (by omega)
    · simpa using h
    · intro out n ho h0 h1
      rw [ev_succ]
      simp [impl_NestOf.l0, ev_some, ev_ite, nestR]
    · intro i hi ih out n ho h0 h1
      rw [ev_succ, drop_cons l z46 i hi]
      have hr : l.getD i z46 = rd_T46 l i := by simp [rd_T46]
      rw [hr]
      simp only [impl_NestOf.l0, ev_ite, Option.bind_some, ev_some]
      rw [if_pos (by omega), if_pos (by omega), if_pos (by omega), if_pos (by omega), wrap_succ hi (by omega), wrap_id (x := n + 1) (by omega) (by omega), wrap_id (x := n - 1) (by omega) (by omega)]
      unfold nestR
      generalize (rd_T46 l i).f0 = kd
      have ih2 : ∀ m : Int, 0 ≤ m → m ≤ i + 1 → Ev (fun k => impl_NestOf.l0 k (out ++ [n]) m l l.length ((i + 1 : Nat) : Int)) (nestR (out ++ [n]) m (l.drop (i + 1))) := fun m hm hm' => ih (out ++ [n]) m (by simp [ho]) hm (by omega)
      by_cases k2 : kd = -2
      · rw [if_pos k2, if_neg (by omega), if_neg (by simp [turn, k2]; omega)]
        simpa [turn, k2] using ih2 (n + 1) (by omega) (by omega)
      · rw [if_neg k2]
        by_cases k3 : kd = -3
        · rw [if_pos k3]
          by_cases hn : n - 1 < 0
          · rw [if_pos hn, if_pos (by simp [turn, k3]; omega)]
          · rw [if_neg hn, if_neg (by simp [turn, k3]; omega)]
            simpa [turn, k3, Int.sub_eq_add_neg] using ih2 (n - 1) (by omega) (by omega)
        · rw [if_neg k3, if_neg (by omega), if_neg (by simp [turn, k2, k3]; omega)]
          simpa [turn, k2, k3] using ih2 n (by omega) (by omega)

end Go.Proofs.Ytlbjdpahhgokkaa.P
/- Laid out items: without what is made they are the items; they nest, and come to nothing; and as many lines end as begin. -/
namespace Go.Proofs.Ytlbjdpahhgokkaa.P
open Go.RowKit Go.Proofs.YtlbjdpahhgokkaaW.PrintWords Go.Proofs.YtlbjdpahhgokkaaW.PrintLast Go.Proofs.YtlbjdpahhgokkaaW.PrintMore Go.Proofs.YtlbjdpahhgokkaaEv
set_option linter.unusedVariables false
set_option linter.unusedSimpArgs false
/-- Is an item none that is made? -/
abbrev real (x : S46) : Bool := !decide (x.f0 < 0)
def nlN (l : List S46) : Nat := (l.filter fun x => decide (x.f0 = -1)).length
def lvl : Int → List S46 → Int
  | n, [] => n
  | n, x :: xs => lvl (n + turn x.f0) xs
def walkOk : Int → List S46 → Prop
  | _, [] => True
  | n, x :: xs => 0 ≤ n + turn x.f0 ∧ walkOk (n + turn x.f0) xs
theorem lvl_append (a b : List S46) : ∀ n, lvl n (a ++ b) = lvl (lvl n a) b := by
  induction a with
  | nil => intro n; rfl
  | cons x a ih => intro n; simp only [List.cons_append, lvl]; exact ih _
theorem walkOk_append (a b : List S46) : ∀ n, walkOk n (a ++ b) ↔ walkOk n a ∧ walkOk (lvl n a) b := by
  induction a with
  | nil => intro n; simp [walkOk, lvl]
  | cons x a ih => intro n; simp only [List.cons_append, walkOk, lvl, ih, and_assoc]
theorem nestR_walk (l : List S46) : ∀ (out : List Int) (n : Int), walkOk n l → lvl n l = 0 → ∃ r, nestR out n l = (r, true) ∧ r.length = out.length + l.length := by
  induction l with
  | nil =>
    intro out n _ h
    simp only [lvl] at h
    exact ⟨out, by simp [nestR, h], by simp⟩
  | cons x l ih =>
    intro out n h1 h2
    obtain ⟨r, a, b⟩ := ih (out ++ [n]) _ h1.2 h2
    refine ⟨r, ?_, by simp at b ⊢; omega⟩
    unfold nestR
    rw [if_neg (by have := h1.1; omega)]
    exact a
/-- What is kept true of output and stack. -/
structure Laid (xs out : List S46) (st : List Int) : Prop where
  items : out.filter real = xs
  walk : walkOk 0 out
  level : lvl 0 out = (st.length : Int) - 1
theorem laid_made {xs out : List S46} {st st2 : List Int} (h : Laid xs out st) (k : Int) (x : S46) (hk : k < 0) (hl : (st2.length : Int) = st.length + turn k) (h1 : 1 ≤ st2.length) : Laid xs (out ++ [madeI k x]) st2 := by
  obtain ⟨a, b, c⟩ := h
  refine ⟨?_, ?_, ?_⟩
  · rw [List.filter_append, a]
    simp [madeI, hk]
  · rw [walkOk_append, c]
    exact ⟨b, by simp only [madeI]; omega, trivial⟩
  · rw [lvl_append, c]
    simp only [lvl, madeI]
    omega
theorem laid_item {xs out : List S46} {st : List Int} (h : Laid xs out st) (x : S46) (hk : 0 ≤ x.f0) (h1 : 1 ≤ st.length) : Laid (xs ++ [x]) (out ++ [x]) st := by
  obtain ⟨a, b, c⟩ := h
  have ht : turn x.f0 = 0 := by unfold turn; rw [if_neg (by omega), if_neg (by omega)]
  refine ⟨?_, ?_, ?_⟩
  · rw [List.filter_append, a, List.filter_cons_of_pos (by simp; omega)]
    rfl
  · rw [walkOk_append, c]
    exact ⟨b, by rw [ht]; omega, trivial⟩
  · rw [lvl_append, c]
    simp only [lvl, ht]
    omega
theorem nlN_append (a b : List S46) : nlN (a ++ b) = nlN a + nlN b := by simp [nlN]
theorem nlN_made (k : Int) (x : S46) : nlN [madeI k x] = if k = -1 then 1 else 0 := by
  by_cases h : k = -1 <;> simp [nlN, madeI, h]
theorem popR_laid (x : S46) (xs : List S46) : ∀ (n : Nat) (st : List Int) (out : List S46), st.length = n + 1 → Laid xs out st → Laid xs (popR x n st out).2 (popR x n st out).1 ∧ nlN (popR x n st out).2 = nlN out ∧ 1 ≤ (popR x n st out).1.length := by
  intro n
  induction n with
  | zero => intro st out hl h; exact ⟨h, rfl, by simp only [popR]; omega⟩
  | succ n ih =>
    intro st out hl h
    simp only [popR]
    split
    · have h1 : (st.take (st.length - 1)).length = n + 1 := by simp; omega
      obtain ⟨a, b, c⟩ := ih (st.take (st.length - 1)) (out ++ [madeI (-3) x]) h1 (laid_made h (-3) x (by omega) (by rw [h1, hl]; simp [turn]; omega) (by omega))
      refine ⟨a, ?_, c⟩
      rw [b, nlN_append, nlN_made]
      simp
    · exact ⟨h, rfl, by dsimp only; omega⟩
theorem begR_laid (x : S46) (xs : List S46) (st : List Int) (out : List S46) (h1 : 1 ≤ st.length) (h : Laid xs out st) : Laid xs (begR x st out).2 (begR x st out).1 ∧ nlN (begR x st out).2 = nlN out ∧ 1 ≤ (begR x st out).1.length := by
  unfold begR
  split
  · obtain ⟨a, b, c⟩ := popR_laid x xs st.length (st ++ [x.f2]) (out ++ [madeI (-2) x]) (by simp) (laid_made h (-2) x (by omega) (by simp [turn]) (by simp))
    refine ⟨a, ?_, c⟩
    rw [b, nlN_append, nlN_made]
    simp
  · exact popR_laid x xs (st.length - 1) st out (by omega) h
theorem laid_out {xs out : List S46} (p : S46) : ∀ (n : Nat) (st : List Int) (out : List S46), st.length = n + 1 → Laid xs out st → Laid xs (out ++ List.replicate n (madeI (-3) p)) [1] ∧ nlN (out ++ List.replicate n (madeI (-3) p)) = nlN out := by
  intro n
  induction n with
  | zero =>
    intro st out hl h
    rw [List.replicate_zero, List.append_nil]
    exact ⟨⟨h.items, h.walk, by rw [h.level]; simp [hl]⟩, rfl⟩
  | succ n ih =>
    intro st out hl h
    have h1 : (st.take (n + 1)).length = n + 1 := by simp; omega
    obtain ⟨a, b⟩ := ih (st.take (n + 1)) (out ++ [madeI (-3) p]) h1 (laid_made h (-3) p (by omega) (by rw [h1, hl]; simp [turn]; omega) (by omega))
    rw [List.replicate_succ, ← List.singleton_append, ← List.append_assoc]
    refine ⟨a, ?_⟩
    rw [b, nlN_append, nlN_made]
    simp
theorem layR_laid (op cl : List Int) : ∀ (xs : List S46) (p : Option S46) (ys out : List S46) (st : List Int) (d i : Int), (∀ x ∈ xs, 0 ≤ x.f0) → 1 ≤ st.length → Laid ys out st → (p = none → ys = [] ∧ st.length = 1) → (layR op cl p xs out st d i).2.1 = 0 →
    Laid (ys ++ xs) (layR op cl p xs out st d i).1 [1] ∧ nlN (layR op cl p xs out st d i).1 ≤ nlN out + xs.length + (if p = none then 0 else 1) ∧ nlN out + (if p = none ∧ xs = [] then 0 else 1) ≤ nlN (layR op cl p xs out st d i).1 := by
  intro xs
  induction xs with
  | nil =>
    intro p ys out st d i _ h1 h hp hr
    simp only [layR] at hr ⊢
    by_cases hd : d = 0
    · rw [if_pos hd]
      cases p with
      | none =>
        simp only [endR, List.append_nil]
        exact ⟨⟨h.items, h.walk, by rw [h.level, (hp rfl).2]; rfl⟩, by simp, by simp⟩
      | some e =>
        simp only [endR]
        have hm := laid_made (st2 := st) h (-1) e (by omega) (by simp [turn]) h1
        obtain ⟨a, b⟩ := laid_out (xs := ys) (out := out) e (st.length - 1) st (out ++ [madeI (-1) e]) (by omega) hm
        rw [List.append_nil]
        refine ⟨a, ?_, ?_⟩
        · rw [b, nlN_append, nlN_made]; simp
        · rw [b, nlN_append, nlN_made]; simp
    · rw [if_neg hd] at hr
      simp at hr
  | cons x xs ih =>
    intro p ys out st d i hx h1 h hp hr
    have hx0 := hx x (by simp)
    have hxs : ∀ y ∈ xs, 0 ≤ y.f0 := fun y hy => hx y (by simp [hy])
    have hnl : Laid ys (nlR p out) st ∧ nlN (nlR p out) = nlN out + (if p = none then 0 else 1) := by
      cases p with
      | none => exact ⟨h, by simp [nlR]⟩
      | some e => exact ⟨laid_made (st2 := st) h (-1) e (by omega) (by simp [turn]) h1, by simp only [nlR]; rw [nlN_append, nlN_made]; simp⟩
    have hone : ∀ y : S46, 0 ≤ y.f0 → nlN [y] = 0 := fun y hy => by simp [nlN]; omega
    have fin : ∀ (o : List S46) (s : List Int) (d1 : Int), Laid ys o s → 1 ≤ s.length → nlN out ≤ nlN o → nlN o ≤ nlN out + (if p = none then 0 else 1) → (layR op cl (some x) xs (o ++ [x]) s d1 (i + 1)).2.1 = 0 → Laid (ys ++ x :: xs) (layR op cl (some x) xs (o ++ [x]) s d1 (i + 1)).1 [1] ∧ nlN (layR op cl (some x) xs (o ++ [x]) s d1 (i + 1)).1 ≤ nlN out + (x :: xs).length + (if p = none then 0 else 1) ∧ nlN out + (if p = none ∧ x :: xs = [] then 0 else 1) ≤ nlN (layR op cl (some x) xs (o ++ [x]) s d1 (i + 1)).1 := by
      intro o s d1 ho hs hge hle hr
      obtain ⟨a, b, c⟩ := ih (some x) (ys ++ [x]) (o ++ [x]) s d1 (i + 1) hxs hs (laid_item ho x hx0 hs) (fun h => by cases h) hr
      rw [nlN_append, hone x hx0] at b c
      refine ⟨by simpa using a, ?_, ?_⟩
      · simp only [List.length_cons, reduceCtorEq, if_false] at b ⊢
        omega
      · simp only [reduceCtorEq, false_and, and_false, if_false] at c ⊢
        omega
    simp only [layR] at hr ⊢
    split at hr
    · rename_i hc
      rw [if_pos hc]
      split at hr
      · rename_i hc2
        rw [if_pos hc2]
        cases hd : depR op cl x.f0 d with
        | none => rw [hd] at hr; simp at hr
        | some d1 =>
          rw [hd] at hr
          obtain ⟨a, b, c⟩ := begR_laid x ys st (nlR p out) h1 hnl.1
          exact fin _ _ d1 a c (by rw [b, hnl.2]; omega) (by rw [b, hnl.2]; omega) hr
      · simp at hr
    · rename_i hc
      rw [if_neg hc]
      cases hd : depR op cl x.f0 d with
      | none => rw [hd] at hr; simp at hr
      | some d1 =>
        rw [hd] at hr
        exact fin _ _ d1 h h1 (Nat.le_refl _) (by omega) hr
theorem itemsR_kinds : ∀ (l : List S46) (last : Int), itemsR last l = true → ∀ x ∈ l, 0 ≤ x.f0 := by
  intro l
  induction l with
  | nil => intro last _ x hx; cases hx
  | cons y l ih =>
    intro last h x hx
    simp only [itemsR, itemB, Bool.and_eq_true, decide_eq_true_eq] at h
    rcases List.mem_cons.1 hx with rfl | hx
    · exact h.1.1.1.1
    · exact ih _ h.2 x hx
/-- Laid out items of right items and brackets. -/
theorem layB_laid {l : List S46} {op cl : List Int} (h : (layB l op cl).2.1 = 0) : (layB l op cl).1.filter real = l ∧ ((layB l op cl).1.length ≤ 5000 → ∃ r, nestB (layB l op cl).1 = (r, true) ∧ r.length = (layB l op cl).1.length) ∧ nlN (layB l op cl).1 ≤ l.length ∧ (0 < nlN (layB l op cl).1 ↔ 0 < l.length) ∧ l.length ≤ 5000 := by
  unfold layB at h ⊢
  split at h
  · rename_i hok
    rw [if_pos hok]
    simp only [Bool.and_eq_true, itemsB, decide_eq_true_eq] at hok
    obtain ⟨a, b, c⟩ := layR_laid op cl l none [] [] [1] 0 0 (itemsR_kinds l 0 hok.1.2) (by simp) ⟨rfl, trivial, rfl⟩ (fun _ => ⟨rfl, rfl⟩) h
    generalize (layR op cl none l [] [1] 0 0).1 = res at *
    simp only [if_true, true_and] at b c
    refine ⟨by simpa using a.items, fun h5 => ?_, by simpa [nlN] using b, ?_, hok.1.1⟩
    · obtain ⟨r, e1, e2⟩ := nestR_walk res [] 0 a.walk (by rw [a.level]; rfl)
      refine ⟨r, ?_, by simpa using e2⟩
      unfold nestB
      rw [if_neg (by omega)]
      exact e1
    · cases l with
      | nil => simp [nlN] at b ⊢; exact b
      | cons x xs =>
        have h0 : nlN ([] : List S46) = 0 := rfl
        rw [if_neg (by simp)] at c
        simp only [List.length_cons]
        omega
  · simp at h
end Go.Proofs.Ytlbjdpahhgokkaa.P
/- The reference's draws end: next, below, once, word, near, off, size. -/
namespace Go.Proofs.Ytlbjdpahhgokkaa.P
open Go.RowKit Go.Proofs.YtlbjdpahhgokkaaW.PrintWords Go.Proofs.YtlbjdpahhgokkaaW.PrintLast Go.Proofs.YtlbjdpahhgokkaaW.PrintMore Go.Proofs.YtlbjdpahhgokkaaEv
set_option linter.unusedVariables false
set_option linter.unusedSimpArgs false

/-- The code that draws, and the place in it. -/
def Dr (b : List Int) (p : Int) : Prop := (∀ x ∈ b, 0 ≤ x ∧ x ≤ 255) ∧ 0 ≤ p ∧ p ≤ b.length ∧ b.length ≤ 1048576
theorem next_ok {b : List Int} {p : Int} (h : Dr b p) : ∃ v p', spec_l1Rd_next.f b p = some (v, p') ∧ 0 ≤ v ∧ v ≤ 255 ∧ Dr b p' := by
  obtain ⟨hb, h0, h1, h2⟩ := h
  unfold spec_l1Rd_next.f
  by_cases hp : p ≥ (b.length : Int)
  · rw [if_pos hp]
    exact ⟨0, p, rfl, by omega, by omega, hb, h0, h1, h2⟩
  · rw [if_neg hp, wrap_id (x := p + 1) (by omega) (by omega), show p + 1 - 1 = p by omega, wrap_id (x := p) (by omega) (by omega), if_pos h0, if_pos (by omega)]
    have hm := hb (rd b p) (by
      unfold rd
      rw [List.getD_eq_getElem?_getD, List.getElem?_eq_getElem (by omega)]
      exact List.getElem_mem _)
    rw [wrap_id (x := rd b p) (by omega) (by omega)]
    exact ⟨_, _, rfl, hm.1, hm.2, hb, by omega, by omega, h2⟩
theorem tmod_ok {x n : Int} (h0 : 0 ≤ x) (hn : 0 < n) : 0 ≤ Int.tmod x n ∧ Int.tmod x n < n := by
  rw [Int.tmod_eq_emod_of_nonneg h0]
  exact ⟨Int.emod_nonneg _ (by omega), Int.emod_lt_of_pos _ hn⟩
theorem below_ok {b : List Int} {p : Int} (h : Dr b p) (n : Int) : ∃ v p', spec_l1Rd_below.f b p n = some (v, p') ∧ 0 ≤ v ∧ (1 ≤ n → v < n) ∧ Dr b p' := by
  unfold spec_l1Rd_below.f
  by_cases h1 : n ≤ 1
  · rw [if_pos h1]
    exact ⟨0, p, rfl, by omega, by omega, h⟩
  rw [if_neg h1]
  obtain ⟨v, q, e, hv0, hv1, hq⟩ := next_ok h
  by_cases h2 : n ≤ 256
  · rw [if_pos h2, e]
    simp only [Option.bind_some]
    rw [if_neg (by omega)]
    have := tmod_ok hv0 (show 0 < n by omega)
    exact ⟨_, _, rfl, this.1, fun _ => this.2, hq⟩
  · rw [if_neg h2, e]
    simp only [Option.bind_some]
    obtain ⟨v2, q2, e2, hw0, hw1, hq2⟩ := next_ok hq
    rw [e2]
    simp only [Option.bind_some]
    rw [if_neg (by omega), wrap_id (x := v * 256) (by omega) (by omega), wrap_id (x := v * 256 + v2) (by omega) (by omega)]
    have := tmod_ok (show 0 ≤ v * 256 + v2 by omega) (show 0 < n by omega)
    exact ⟨_, _, rfl, this.1, fun _ => this.2, hq2⟩
theorem once_ok {b : List Int} {p : Int} (h : Dr b p) (n : Int) : ∃ v p', spec_l1Rd_once.f b p n = some (v, p') ∧ Dr b p' := by
  unfold spec_l1Rd_once.f
  obtain ⟨v, q, e, _, _, hq⟩ := below_ok h n
  rw [e]
  exact ⟨_, _, rfl, hq⟩
theorem size_ok {b : List Int} {p : Int} (h : Dr b p) (per most : Int) (hp : 1 ≤ per) (hm : 1 ≤ most) (hm2 : most ≤ 1000000) : ∃ v p', spec_l1Rd_size.f b p per most = some (v, p') ∧ 1 ≤ v ∧ v ≤ most ∧ Dr b p' := by
  have hd0 : 0 ≤ (b.length : Int) / per := Int.ediv_nonneg (by omega) (by omega)
  have hd1 : (b.length : Int) / per ≤ b.length := Int.ediv_le_self _ (by omega)
  have h2 := h.2.2.2
  unfold spec_l1Rd_size.f
  rw [if_neg (by omega), wrap_id (x := (b.length : Int) / per) (by omega) (by omega), wrap_id (x := 1 + (b.length : Int) / per) (by omega) (by omega)]
  by_cases hc : 1 + (b.length : Int) / per > most
  · rw [if_pos hc]
    obtain ⟨v, q, e, h0, h1, hq⟩ := below_ok h most
    have := h1 hm
    rw [e]
    simp only [Option.bind_some]
    rw [wrap_id (x := 1 + v) (by omega) (by omega)]
    exact ⟨_, _, rfl, by omega, by omega, hq⟩
  · rw [if_neg hc]
    obtain ⟨v, q, e, h0, h1, hq⟩ := below_ok h (1 + (b.length : Int) / per)
    have := h1 (by omega)
    rw [e]
    simp only [Option.bind_some]
    rw [wrap_id (x := 1 + v) (by omega) (by omega)]
    exact ⟨_, _, rfl, by omega, by omega, hq⟩
theorem word_ok {b : List Int} : ∀ (n : Nat) (i : Int) (x p : Int), Dr b p → 0 ≤ i → 8 - i = n → ∃ v p', Ev (fun k => spec_l1Rd_word.l0 k x i b p) (v, p') ∧ Dr b p' := by
  intro n
  induction n with
  | zero =>
    intro i x p h h0 hi
    refine ⟨x, p, ?_, h⟩
    rw [ev_succ]
    simp only [spec_l1Rd_word.l0, ev_ite, ev_some]
    rw [if_neg (by omega)]
    trivial
  | succ n ih =>
    intro i x p h h0 hi
    obtain ⟨v, q, e, _, _, hq⟩ := next_ok h
    obtain ⟨r, q2, e2, hq2⟩ := ih (i + 1) (Go.bits .or .u64 (IntKind.u64.wrap (x * 256)) (IntKind.u64.wrap v)) q hq (by omega) (by omega)
    refine ⟨r, q2, ?_, hq2⟩
    rw [ev_succ]
    simp only [spec_l1Rd_word.l0, ev_ite, e, Option.bind_some]
    rw [if_pos (by omega), wrap_id (x := i + 1) (by omega) (by omega)]
    exact e2
theorem near_ok {b : List Int} {p : Int} (h : Dr b p) (lo hi : Int) (hl : 0 ≤ lo) (hh : hi ≤ 1000000000) : ∃ v p', Ev (fun k => spec_l1Rd_near.f k b p lo hi) (v, p') ∧ Dr b p' := by
  unfold spec_l1Rd_near.f
  obtain ⟨v, q, e, _, _, hq⟩ := below_ok h 8
  rw [e]
  simp only [Option.bind_some, ev_ite]
  by_cases h0 : v = 0
  · exact ⟨_, _, by rw [if_pos h0]; exact ev_some.2 rfl, hq⟩
  by_cases h1 : v = 1
  · exact ⟨_, _, by rw [if_neg h0, if_pos h1]; exact ev_some.2 rfl, hq⟩
  by_cases h2 : hi < lo
  · exact ⟨_, _, by rw [if_neg h0, if_neg h1, if_pos h2]; exact ev_some.2 rfl, hq⟩
  obtain ⟨x, q2, e2, hq2⟩ := word_ok 8 0 0 q hq (by omega) (by omega)
  have e3 : Ev (fun k => spec_l1Rd_word.f k b q) (x, q2) := e2
  have hw : IntKind.u64.wrap (hi - lo + 1) = hi - lo + 1 := by
    rw [IntKind.wrap_u64]
    omega
  refine ⟨wrap64 (lo + wrap64 (Int.tmod (x / 2) (hi - lo + 1))), q2, ?_, hq2⟩
  rw [if_neg h0, if_neg h1, if_neg h2, ev_bind e3, wrap_id (x := hi - lo) (by omega) (by omega), wrap_id (x := hi - lo + 1) (by omega) (by omega), hw]
  simp only [ev_ite]
  rw [if_neg (by omega)]
  exact ev_some.2 rfl
theorem off_ok {b : List Int} {p : Int} (h : Dr b p) (lo hi : Int) (hl : 0 ≤ lo) (hh : hi ≤ 1000000000) : ∃ v p', Ev (fun k => spec_l1Rd_off.f k b p lo hi) (v, p') ∧ Dr b p' := by
  unfold spec_l1Rd_off.f
  obtain ⟨o, q, e, hq⟩ := once_ok h 24
  rw [e]
  simp only [Option.bind_some, ev_ite]
  cases o
  · obtain ⟨v, q2, e2, hq2⟩ := near_ok hq lo hi hl hh
    refine ⟨v, q2, ?_, hq2⟩
    rw [if_neg (by simp), ev_bind e2]
    exact ev_some.2 rfl
  · obtain ⟨v, q2, e2, h0, h1, hq2⟩ := below_ok hq 4
    have := h1 (by omega)
    refine ⟨rd [wrap64 (lo - 1), wrap64 (hi + 1), -9223372036854775808, 9223372036854775807] v, q2, ?_, hq2⟩
    rw [if_pos rfl, e2]
    simp only [Option.bind_some, ev_ite]
    rw [if_pos h0, if_pos (by simp; omega)]
    exact ev_some.2 rfl
end Go.Proofs.Ytlbjdpahhgokkaa.P
/- The reference's draw of items ends, with at most 5001 items. -/
namespace Go.Proofs.Ytlbjdpahhgokkaa.P
open Go.RowKit Go.Proofs.YtlbjdpahhgokkaaW.PrintWords Go.Proofs.YtlbjdpahhgokkaaW.PrintLast Go.Proofs.YtlbjdpahhgokkaaW.PrintMore Go.Proofs.YtlbjdpahhgokkaaEv
set_option linter.unusedVariables false
set_option linter.unusedSimpArgs false

theorem items_l3_ok {b : List Int} : ∀ (n : Nat) (out : List S46) (p : Int), Dr b p → 1 ≤ out.length → out.length + n = 5001 → ∃ o q, Ev (fun k => spec_l1Rd_items.l3 k out b p) (o, q) ∧ Dr b q ∧ o.length ≤ 5001 := by
  intro n
  induction n with
  | zero =>
    intro out p h h1 hn
    obtain ⟨v, q, e, h0, hv, hq⟩ := below_ok h 2
    have := hv (by omega)
    refine ⟨out, q, ?_, hq, by omega⟩
    rw [ev_succ]
    simp only [spec_l1Rd_items.l3, e, Option.bind_some, ev_ite]
    rw [wrap_id (x := 5000 + v) (by omega) (by omega), if_neg (by omega)]
    exact ev_some.2 rfl
  | succ n ih =>
    intro out p h h1 hn
    obtain ⟨v, q, e, h0, hv, hq⟩ := below_ok h 2
    have := hv (by omega)
    by_cases hc : (out.length : Int) < 5000 + v
    · obtain ⟨o, q2, e2, hq2, hl⟩ := ih (out ++ [⟨(rd_T46 out ((out.length : Int) - 1)).f0, (rd_T46 out ((out.length : Int) - 1)).f1, (rd_T46 out ((out.length : Int) - 1)).f2⟩]) q hq (by simp) (by simp; omega)
      refine ⟨o, q2, ?_, hq2, hl⟩
      rw [ev_succ]
      simp only [spec_l1Rd_items.l3, e, Option.bind_some, ev_ite]
      rw [wrap_id (x := 5000 + v) (by omega) (by omega), if_pos hc, wrap_id (x := (out.length : Int) - 1) (by omega) (by omega), if_pos (by omega), if_pos (by omega), if_pos (by omega)]
      exact e2
    · refine ⟨out, q, ?_, hq, by omega⟩
      rw [ev_succ]
      simp only [spec_l1Rd_items.l3, e, Option.bind_some, ev_ite]
      rw [wrap_id (x := 5000 + v) (by omega) (by omega), if_neg hc]
      exact ev_some.2 rfl
/-- The next line's loop ends. -/
def NextOk (b : List Int) (cols : List Int) (line : Int) : Prop := ∀ (out : List S46) (depth p : Int), Dr b p → 1 ≤ out.length → (out.length : Int) ≤ 40 * line → -4 * line ≤ depth → depth ≤ 4 * line → ∃ o q, Ev (fun k => spec_l1Rd_items.l0 k out cols depth (line + 1) b p) (o, q) ∧ Dr b q ∧ o.length ≤ 5001
theorem items_l2_ok {b cols : List Int} {line : Int} (hl : 1 ≤ line ∧ line ≤ 9) (hN : NextOk b cols line) (col : Int) : ∀ (n : Nat) (out : List S46) (depth p : Int), Dr b p → 1 ≤ out.length → depth ≤ n → (out.length : Int) + n ≤ 40 * line → -4 * line ≤ depth → depth ≤ 4 * line → ∃ o q, Ev (fun k => spec_l1Rd_items.l2 k out cols depth line col b p) (o, q) ∧ Dr b q ∧ o.length ≤ 5001 := by
  intro n
  induction n with
  | zero =>
    intro out depth p h h1 hd ho hd0 hd1
    obtain ⟨o, q, e, hq, hol⟩ := hN out depth p h h1 (by omega) hd0 hd1
    refine ⟨o, q, ?_, hq, hol⟩
    rw [ev_succ]
    simp only [spec_l1Rd_items.l2, ev_ite]
    rw [if_neg (by omega), wrap_id (x := line + 1) (by omega) (by omega)]
    exact e
  | succ n ih =>
    intro out depth p h h1 hd ho hd0 hd1
    by_cases hc : depth > 0
    · obtain ⟨v, q, e, hq⟩ := once_ok h 6
      cases v
      · obtain ⟨o, q2, e2, hq2, hol⟩ := ih (out ++ [⟨4, line, col⟩]) (depth - 1) q hq (by simp) (by omega) (by simp; omega) (by omega) (by omega)
        refine ⟨o, q2, ?_, hq2, hol⟩
        rw [ev_succ]
        simp only [spec_l1Rd_items.l2, ev_ite, e, Option.bind_some]
        rw [if_pos hc, if_neg (by simp), if_pos (by omega), wrap_id (x := depth - 1) (by omega) (by omega)]
        exact e2
      · obtain ⟨o, q2, e2, hq2, hol⟩ := hN out depth q hq h1 (by omega) hd0 hd1
        refine ⟨o, q2, ?_, hq2, hol⟩
        rw [ev_succ]
        simp only [spec_l1Rd_items.l2, ev_ite, e, Option.bind_some]
        rw [if_pos hc, if_pos trivial, wrap_id (x := line + 1) (by omega) (by omega)]
        exact e2
    · obtain ⟨o, q, e, hq, hol⟩ := hN out depth p h h1 (by omega) hd0 hd1
      refine ⟨o, q, ?_, hq, hol⟩
      rw [ev_succ]
      simp only [spec_l1Rd_items.l2, ev_ite]
      rw [if_neg hc, wrap_id (x := line + 1) (by omega) (by omega)]
      exact e
theorem items_l1_ok {b cols : List Int} {line : Int} (hl : 1 ≤ line ∧ line ≤ 9) (hN : NextOk b cols line) : ∀ (n : Nat) (out : List S46) (depth col p : Int), n ≤ 4 → Dr b p → (1 ≤ n ∨ 1 ≤ out.length) → (out.length : Int) ≤ 40 * (line - 1) + (4 - n) → -4 * (line - 1) - (4 - n) ≤ depth → depth ≤ 4 * (line - 1) + (4 - n) → ∃ o q, Ev (fun k => spec_l1Rd_items.l1 k out cols depth line col n b p) (o, q) ∧ Dr b q ∧ o.length ≤ 5001 := by
  intro n
  induction n with
  | zero =>
    intro out depth col p h4 h h1 ho hd0 hd1
    obtain ⟨o, q, e, hq, hol⟩ := items_l2_ok hl hN col (4 * line).toNat out depth p h (by omega) (by omega) (by omega) (by omega) (by omega)
    refine ⟨o, q, ?_, hq, hol⟩
    rw [ev_succ]
    simp only [spec_l1Rd_items.l1, ev_ite]
    rw [if_neg (by omega)]
    exact e
  | succ n ih =>
    intro out depth col p h4 h h1 ho hd0 hd1
    have j5 : ∀ (kind q : Int), Dr b q → ∃ o q2, Ev (fun k => spec_l1Rd_items.j5 k out cols depth line col ((n + 1 : Nat) : Int) kind b q) (o, q2) ∧ Dr b q2 ∧ o.length ≤ 5001 := by
      intro kind q hq
      obtain ⟨v, q2, e, _, _, hq2⟩ := below_ok hq 3
      have hd : ∀ d : Int, depth - 1 ≤ d → d ≤ depth + 1 → ∃ o q3, Ev (fun k => spec_l1Rd_items.l1 k (out ++ [⟨kind, line, col⟩]) cols d line (wrap64 (wrap64 (col + 1) + v)) n b q2) (o, q3) ∧ Dr b q3 ∧ o.length ≤ 5001 := fun d h0 h1 =>
        ih _ d _ q2 (by omega) hq2 (.inr (by simp)) (by simp; omega) (by omega) (by omega)
      have hwn : wrap64 (((n + 1 : Nat) : Int) - 1) = (n : Int) := by rw [wrap_id (by omega) (by omega)]; omega
      have hol : out.length < 5864062014805 := by omega
      by_cases h3 : kind = 3
      · obtain ⟨o, q3, e3, hq3, ho3⟩ := hd (depth + 1) (by omega) (by omega)
        refine ⟨o, q3, ?_, hq3, ho3⟩
        rw [ev_succ]
        simp only [spec_l1Rd_items.j5, ev_ite, e, Option.bind_some]
        rw [if_pos h3, if_neg (by omega), if_pos hol, hwn, wrap_id (x := depth + 1) (by omega) (by omega)]
        exact e3
      · by_cases h4 : kind = 4
        · obtain ⟨o, q3, e3, hq3, ho3⟩ := hd (depth - 1) (by omega) (by omega)
          refine ⟨o, q3, ?_, hq3, ho3⟩
          rw [ev_succ]
          simp only [spec_l1Rd_items.j5, ev_ite, e, Option.bind_some]
          rw [if_neg h3, if_pos h4, if_pos hol, hwn, wrap_id (x := depth - 1) (by omega) (by omega)]
          exact e3
        · obtain ⟨o, q3, e3, hq3, ho3⟩ := hd depth (by omega) (by omega)
          refine ⟨o, q3, ?_, hq3, ho3⟩
          rw [ev_succ]
          simp only [spec_l1Rd_items.j5, ev_ite, e, Option.bind_some]
          rw [if_neg h3, if_neg h4, if_pos hol, hwn]
          exact e3
    have j4 : ∀ (kind q : Int) (c : Bool), Dr b q → ∃ o q2, Ev (fun k => spec_l1Rd_items.j4 k out cols depth line col ((n + 1 : Nat) : Int) kind c b q) (o, q2) ∧ Dr b q2 ∧ o.length ≤ 5001 := by
      intro kind q c hq
      cases c
      · obtain ⟨o, q2, e, hq2, ho2⟩ := j5 kind q hq
        refine ⟨o, q2, ?_, hq2, ho2⟩
        rw [ev_succ]
        simp only [spec_l1Rd_items.j4, ev_ite]
        rw [if_neg (by simp)]
        exact e
      · obtain ⟨o, q2, e, hq2, ho2⟩ := j5 0 q hq
        refine ⟨o, q2, ?_, hq2, ho2⟩
        rw [ev_succ]
        simp only [spec_l1Rd_items.j4, ev_ite]
        rw [if_pos trivial]
        exact e
    obtain ⟨v, q, e, _, _, hq⟩ := below_ok h 5
    by_cases h4' : v = 4
    · by_cases h0 : depth = 0
      · obtain ⟨c, q2, e2, hq2⟩ := once_ok hq 20
        obtain ⟨o, q3, e3, hq3, ho3⟩ := j4 v q2 (!c) hq2
        refine ⟨o, q3, ?_, hq3, ho3⟩
        rw [ev_succ]
        simp only [spec_l1Rd_items.l1, ev_ite, e, Option.bind_some]
        rw [if_pos (by omega), if_pos h4', if_pos h0, e2]
        exact e3
      · obtain ⟨o, q3, e3, hq3, ho3⟩ := j4 v q false hq
        refine ⟨o, q3, ?_, hq3, ho3⟩
        rw [ev_succ]
        simp only [spec_l1Rd_items.l1, ev_ite, e, Option.bind_some]
        rw [if_pos (by omega), if_pos h4', if_neg h0]
        exact e3
    · obtain ⟨o, q3, e3, hq3, ho3⟩ := j4 v q false hq
      refine ⟨o, q3, ?_, hq3, ho3⟩
      rw [ev_succ]
      simp only [spec_l1Rd_items.l1, ev_ite, e, Option.bind_some]
      rw [if_pos (by omega), if_neg h4']
      exact e3
theorem items_j1_ok {b cols : List Int} {line : Int} (hl : 1 ≤ line ∧ line ≤ 9) (hN : NextOk b cols line) (out : List S46) (depth col p : Int) (h : Dr b p) (ho : (out.length : Int) ≤ 40 * (line - 1)) (hd0 : -4 * (line - 1) ≤ depth) (hd1 : depth ≤ 4 * (line - 1)) : ∃ o q, Ev (fun k => spec_l1Rd_items.j1 k out cols depth line col b p) (o, q) ∧ Dr b q ∧ o.length ≤ 5001 := by
  have j2 : ∀ (c q : Int), Dr b q → ∃ o q2, Ev (fun k => spec_l1Rd_items.j2 k out cols depth line c b q) (o, q2) ∧ Dr b q2 ∧ o.length ≤ 5001 := by
    intro c q hq
    obtain ⟨v, q2, e, h0, h1, hq2⟩ := below_ok hq 4
    have := h1 (by omega)
    obtain ⟨o, q3, e3, hq3, ho3⟩ := items_l1_ok hl hN (1 + v).toNat out depth c q2 (by omega) hq2 (.inl (by omega)) (by omega) (by omega) (by omega)
    refine ⟨o, q3, ?_, hq3, ho3⟩
    rw [ev_succ]
    simp only [spec_l1Rd_items.j2, e, Option.bind_some]
    rw [wrap_id (x := 1 + v) (by omega) (by omega)]
    rw [Int.toNat_of_nonneg (by omega)] at e3
    exact e3
  obtain ⟨c, q, e, hq⟩ := once_ok h 20
  cases c
  · obtain ⟨o, q2, e2, hq2, ho2⟩ := j2 col q hq
    refine ⟨o, q2, ?_, hq2, ho2⟩
    rw [ev_succ]
    simp only [spec_l1Rd_items.j1, e, Option.bind_some, ev_ite]
    rw [if_neg (by simp)]
    exact e2
  · obtain ⟨v, q1, e1, _, _, hq1⟩ := below_ok hq 6
    obtain ⟨o, q2, e2, hq2, ho2⟩ := j2 (wrap64 (1 + v)) q1 hq1
    refine ⟨o, q2, ?_, hq2, ho2⟩
    rw [ev_succ]
    simp only [spec_l1Rd_items.j1, e, e1, Option.bind_some, ev_ite]
    rw [if_pos trivial]
    exact e2
theorem items_out_ok {b : List Int} (line : Int) (cols : List Int) (out : List S46) (depth p v q : Int) (e : spec_l1Rd_size.f b p 4 9 = some (v, q)) (hq : Dr b q) (hlt : ¬ line ≤ v) (hout : 1 ≤ out.length) (ho : (out.length : Int) ≤ 5000) : ∃ o q, Ev (fun k => spec_l1Rd_items.l0 k out cols depth line b p) (o, q) ∧ Dr b q ∧ o.length ≤ 5001 := by
  obtain ⟨i, q1, e1, hi0, hi1, hq1⟩ := below_ok hq (out.length : Int)
  obtain ⟨c, q2, e2, _, _, hq2⟩ := below_ok hq1 40
  have hil := hi1 (by omega)
  obtain ⟨w, q3, e3, hq3⟩ := off_ok hq2 1 9 (by omega) (by omega)
  obtain ⟨o3, q4, e4, hq4, hl4⟩ := items_l3_ok (5001 - out.length) out q2 hq2 hout (by omega)
  have goal : ∃ o q, Ev (fun k => if c = 0 then (if 0 ≤ i then (if i < (out.length : Int) then (some (out.set i.toNat (⟨-1, (rd_T46 out i).f1, (rd_T46 out i).f2⟩ : S46), q2)) else none) else none) else (if c = 1 then ((spec_l1Rd_off.f k b q2 1 9).bind fun bt => (if 0 ≤ i then (if i < (out.length : Int) then (some (out.set i.toNat (⟨(rd_T46 out i).f0, bt.1, (rd_T46 out i).f2⟩ : S46), bt.2)) else none) else none)) else (if c = 2 then ((spec_l1Rd_off.f k b q2 1 9).bind fun bt => (if 0 ≤ i then (if i < (out.length : Int) then (some (out.set i.toNat (⟨(rd_T46 out i).f0, (rd_T46 out i).f1, bt.1⟩ : S46), bt.2)) else none) else none)) else (if c = 3 then (spec_l1Rd_items.l3 k out b q2) else (if c = 4 then (if 0 ≤ (out.length : Int) then (some (out.take (0 : Int).toNat, q2)) else none) else (some (out, q2))))))) (o, q) ∧ Dr b q ∧ o.length ≤ 5001 := by
    simp only [ev_ite, ev_bind e3]
    by_cases c0 : c = 0
    · exact ⟨_, _, by rw [if_pos c0, if_pos hi0, if_pos hil]; exact ev_some.2 rfl, hq2, by simp; omega⟩
    by_cases c1 : c = 1
    · exact ⟨_, _, by rw [if_neg c0, if_pos c1, if_pos hi0, if_pos hil]; exact ev_some.2 rfl, hq3, by simp; omega⟩
    by_cases c2 : c = 2
    · exact ⟨_, _, by rw [if_neg c0, if_neg c1, if_pos c2, if_pos hi0, if_pos hil]; exact ev_some.2 rfl, hq3, by simp; omega⟩
    by_cases c3 : c = 3
    · exact ⟨_, _, by rw [if_neg c0, if_neg c1, if_neg c2, if_pos c3]; exact e4, hq4, hl4⟩
    by_cases c4 : c = 4
    · exact ⟨_, _, by rw [if_neg c0, if_neg c1, if_neg c2, if_neg c3, if_pos c4, if_pos (by omega)]; exact ev_some.2 rfl, hq2, by simp⟩
    · exact ⟨_, _, by rw [if_neg c0, if_neg c1, if_neg c2, if_neg c3, if_neg c4]; exact ev_some.2 rfl, hq2, by omega⟩
  obtain ⟨o, q5, e5, hq5, ho5⟩ := goal
  refine ⟨o, q5, ?_, hq5, ho5⟩
  rw [ev_succ]
  simp only [spec_l1Rd_items.l0, e, Option.bind_some, ev_ite]
  rw [if_neg (by omega), e1]
  simp only [Option.bind_some, e2]
  simp only [ev_ite] at e5
  simpa only [ev_ite] using e5
theorem items_l0_ok {b : List Int} : ∀ (m : Nat) (line : Int) (cols : List Int) (out : List S46) (depth p : Int), line + m = 10 → 1 ≤ line → Dr b p → 1 ≤ cols.length → (cols.length : Int) ≤ line → (2 ≤ line → 1 ≤ out.length) → (out.length : Int) ≤ 40 * (line - 1) → -4 * (line - 1) ≤ depth → depth ≤ 4 * (line - 1) → ∃ o q, Ev (fun k => spec_l1Rd_items.l0 k out cols depth line b p) (o, q) ∧ Dr b q ∧ o.length ≤ 5001 := by
  intro m
  induction m with
  | zero =>
    intro line cols out depth p hm h1 h hc0 hc1 ho1 ho hd0 hd1
    obtain ⟨v, q, e, hv0, hv1, hq⟩ := size_ok h 4 9 (by omega) (by omega) (by omega)
    exact items_out_ok line cols out depth p v q e hq (by omega) (ho1 (by omega)) (by omega)
  | succ m ih =>
    intro line cols out depth p hm h1 h hc0 hc1 ho1 ho hd0 hd1
    obtain ⟨v, q, e, hv0, hv1, hq⟩ := size_ok h 4 9 (by omega) (by omega) (by omega)
    by_cases hlt : line ≤ v
    · have hN : ∀ cols2 : List Int, 1 ≤ cols2.length → (cols2.length : Int) ≤ line + 1 → NextOk b cols2 line := fun cols2 h2 h3 out2 d2 p2 hp2 ho2 ho3 hd2 hd3 => ih (line + 1) cols2 out2 d2 p2 (by omega) (by omega) hp2 h2 h3 (fun _ => ho2) (by omega) (by omega) (by omega)
      have hw : wrap64 ((cols.length : Int) - 1) = (cols.length : Int) - 1 := wrap_id (by omega) (by omega)
      obtain ⟨c, q1, e1, _, _, hq1⟩ := below_ok hq 4
      by_cases c0 : c = 0
      · obtain ⟨o, q2, e2, hq2, ho2⟩ := items_j1_ok (by omega) (hN (cols ++ [wrap64 (rd cols ((cols.length : Int) - 1) + 2)]) (by simp) (by simp; omega)) out depth (wrap64 (rd cols ((cols.length : Int) - 1) + 2)) q1 hq1 ho hd0 hd1
        refine ⟨o, q2, ?_, hq2, ho2⟩
        rw [ev_succ]
        simp only [spec_l1Rd_items.l0, e, Option.bind_some, ev_ite, hw]
        rw [if_pos hlt, if_pos (by omega), if_pos (by omega), e1]
        simp only [Option.bind_some, ev_ite]
        rw [if_pos c0, if_pos (by omega)]
        exact e2
      by_cases c1 : c = 1
      · obtain ⟨w, q3, e3, hw0, hw1, hq3⟩ := below_ok hq1 (cols.length : Int)
        have hwl := hw1 (by omega)
        have hlen : (cols.take (1 + w).toNat).length = (1 + w).toNat := by simp; omega
        obtain ⟨o, q2, e2, hq2, ho2⟩ := items_j1_ok (by omega) (hN (cols.take (1 + w).toNat) (by omega) (by omega)) out depth (rd (cols.take (1 + w).toNat) (((cols.take (1 + w).toNat).length : Int) - 1)) q3 hq3 ho hd0 hd1
        refine ⟨o, q2, ?_, hq2, ho2⟩
        rw [ev_succ]
        simp only [spec_l1Rd_items.l0, e, Option.bind_some, ev_ite, hw]
        rw [if_pos hlt, if_pos (by omega), if_pos (by omega), e1]
        simp only [Option.bind_some, ev_ite]
        rw [if_neg c0, if_pos c1, e3]
        simp only [Option.bind_some, ev_ite]
        rw [wrap_id (x := 1 + w) (by omega) (by omega), if_pos (by omega), if_pos (by omega), wrap_id (x := ((cols.take (1 + w).toNat).length : Int) - 1) (by omega) (by omega), if_pos (by omega), if_pos (by omega)]
        exact e2
      · obtain ⟨o, q2, e2, hq2, ho2⟩ := items_j1_ok (by omega) (hN cols hc0 (by omega)) out depth (rd cols ((cols.length : Int) - 1)) q1 hq1 ho hd0 hd1
        refine ⟨o, q2, ?_, hq2, ho2⟩
        rw [ev_succ]
        simp only [spec_l1Rd_items.l0, e, Option.bind_some, ev_ite, hw]
        rw [if_pos hlt, if_pos (by omega), if_pos (by omega), e1]
        simp only [Option.bind_some, ev_ite]
        rw [if_neg c0, if_neg c1]
        exact e2
    · exact items_out_ok line cols out depth p v q e hq hlt (ho1 (by omega)) (by omega)
theorem items_ok {b : List Int} {p : Int} (h : Dr b p) : ∃ o q, Ev (fun k => spec_l1Rd_items.f k b p) (o, q) ∧ Dr b q ∧ o.length ≤ 5001 :=
  items_l0_ok 9 1 [1] [] 0 p (by omega) (by omega) h (by simp) (by simp) (by omega) (by simp) (by omega) (by omega)
end Go.Proofs.Ytlbjdpahhgokkaa.P
/- The law's comparison of two lists of items, at the same list. -/
namespace Go.Proofs.Ytlbjdpahhgokkaa.P
open Go.RowKit Go.Proofs.YtlbjdpahhgokkaaW.PrintWords Go.Proofs.YtlbjdpahhgokkaaW.PrintLast Go.Proofs.YtlbjdpahhgokkaaW.PrintMore Go.Proofs.YtlbjdpahhgokkaaEv
set_option linter.unusedVariables false
set_option linter.unusedSimpArgs false
theorem sameItems_self (l : List S46) (hl : l.length ≤ 9223372036854775807) : Ev (fun k => laws_sameItems.f k l l) true := by
  unfold laws_sameItems.f
  simp only [ev_ite, if_true]
  have key := ev_loop l.length (fun k i => laws_sameItems.l0 k l l (i : Nat)) (fun _ => true) ?_ ?_ 0 (by omega)
  · exact key
  · rw [ev_succ]
    simp [laws_sameItems.l0, ev_some]
  · intro i hi ih
    rw [ev_succ]
    simp only [laws_sameItems.l0, ev_ite, ev_some]
    rw [if_pos (by omega), if_pos (by omega), if_pos (by omega), if_neg (by simp), wrap_succ hi (by omega)]
    exact ih
end Go.Proofs.Ytlbjdpahhgokkaa.P
/- The pure statement of the law FnLaidOut: over numbers and lists alone, the law's printed function answers true for every list of bytes. -/
namespace Go.Proofs.Ytlbjdpahhgokkaa.fnLaidOut.Pure
open Go.RowKit Go.Proofs.YtlbjdpahhgokkaaW.PrintWords Go.Proofs.YtlbjdpahhgokkaaW.PrintLast Go.Proofs.Ytlbjdpahhgokkaa.P Go.Proofs.YtlbjdpahhgokkaaEv
set_option linter.unusedVariables false
set_option linter.unusedSimpArgs false
theorem wf8 {n : Int} (h : (Lit.int .u8 n).wf = true) : 0 ≤ n ∧ n ≤ 255 := by
  simp [Lit.wf, IntKind.min, IntKind.max, IntKind.signed, IntKind.bits] at h
  omega
theorem brackets_ok {b : List Int} {p : Int} (h : Dr b p) : ∃ op cl q, Ev (fun k => spec_l1Rd_brackets.f k b p) (op, cl, q) ∧ op.length ≤ 2 ∧ cl.length ≤ 2 := by
  unfold spec_l1Rd_brackets.f
  simp only [Option.bind_some]
  obtain ⟨v, q, e, _, _, hq⟩ := below_ok h 20
  rw [e]
  simp only [Option.bind_some]
  by_cases h0 : v = 0
  · exact ⟨[3, 4], [4], q, by rw [ev_ite, if_pos h0]; exact ev_some.2 rfl, by simp, by simp⟩
  by_cases h1 : v = 1
  · obtain ⟨v2, q2, e2, hq2⟩ := off_ok hq 0 9 (by omega) (by omega)
    exact ⟨[3], [4, v2], q2, by rw [ev_ite, if_neg h0, ev_ite, if_pos h1, ev_bind e2]; exact ev_some.2 rfl, by simp, by simp⟩
  by_cases h2 : v = 2
  · exact ⟨[], [], q, by rw [ev_ite, if_neg h0, ev_ite, if_neg h1, ev_ite, if_pos h2]; exact ev_some.2 rfl, by simp, by simp⟩
  · exact ⟨[3], [4], q, by rw [ev_ite, if_neg h0, ev_ite, if_neg h1, ev_ite, if_neg h2]; exact ev_some.2 rfl, by simp, by simp⟩
theorem nlN_drop (l : List S46) (i : Nat) (h : i < l.length) : nlN (l.drop i) = (if (rd_T46 l (i : Int)).f0 = -1 then 1 else 0) + nlN (l.drop (i + 1)) := by
  rw [drop_cons l z46 i h]
  have hr : l.getD i z46 = rd_T46 l (i : Int) := by simp [rd_T46]
  rw [hr]
  unfold nlN
  by_cases hk : (rd_T46 l (i : Int)).f0 = -1
  · rw [if_pos hk, List.filter_cons_of_pos (by simpa using hk)]
    simp
    omega
  · rw [if_neg hk, List.filter_cons_of_neg (by simpa using hk)]
    simp
theorem count_loop (o res : List S46) (hn : res.length ≤ 1000000) (hpl : impl_Plain.f res = some o) (ho : o.length ≤ 1000000) (h1 : nlN res ≤ o.length) (h2 : 0 < nlN res ↔ 0 < o.length) : ∀ i, i ≤ res.length → ∀ c : Nat, c + nlN (res.drop i) = nlN res → Ev (fun k => laws_FnLaidOut.l0 k o res (c : Int) (i : Int)) true := by
  have hle : nlN res ≤ res.length := List.length_filter_le _ _
  refine down res.length _ ?_ ?_
  · intro c hc
    rw [List.drop_length] at hc
    have hc0 : c = nlN res := by simpa [nlN] using hc
    rw [ev_succ]
    simp only [laws_FnLaidOut.l0]
    rw [ev_ite, if_neg (by omega)]
    simp only [hpl, Option.bind_some]
    rw [ev_bind (sameItems_self o (by omega)), ev_ite, if_pos rfl, ev_ite, if_pos (by
      rw [beq_iff_eq]
      by_cases h : 0 < nlN res
      · rw [decide_eq_true (show (c : Int) > 0 by omega), decide_eq_true (show (o.length : Int) > 0 by have := h2.1 h; omega)]
      · rw [decide_eq_false (show ¬ (c : Int) > 0 by omega), decide_eq_false (show ¬ (o.length : Int) > 0 by have := mt h2.2 h; omega)])]
    exact ev_some.2 (decide_eq_true (by omega))
  · intro i hi ih c hc
    rw [nlN_drop res i hi] at hc
    have hcle : c ≤ 1000000 := by omega
    rw [ev_succ]
    simp only [laws_FnLaidOut.l0]
    rw [ev_ite, if_pos (by omega), ev_ite, if_pos (by omega), ev_ite, wrap_succ hi (by omega), wrap_id (x := (c : Int) + 1) (by omega) (by omega)]
    by_cases hk : (rd_T46 res (i : Int)).f0 = -1
    · rw [if_pos hk] at hc ⊢
      exact ih (c + 1) (by omega)
    · rw [if_neg hk] at hc ⊢
      exact ih c (by omega)
theorem pure_FnLaidOut : ∀ (l0 : List Int), (l0.length ≤ maxLen ∧ ∀ y ∈ l0, (Lit.int .u8 y).wf = true) → ∃ k, laws_FnLaidOut.f k l0 = some true := by
  rintro l ⟨hm, hg⟩
  refine ev_get (g := fun k => laws_FnLaidOut.f k l) ?_
  unfold laws_FnLaidOut.f laws_big.f
  simp only [Option.bind_some, ev_ite]
  by_cases hl : l.length ≤ 1048576
  · rw [if_neg (by simp; omega)]
    obtain ⟨o, q, e, hq, ho⟩ := items_ok (⟨fun x hx => wf8 (hg x hx), by omega, by omega, hl⟩ : Dr l 0)
    obtain ⟨op, cl, q2, e2, hop, hcl⟩ := brackets_ok hq
    have hD : Ev (fun k => spec_DrawLayout.f k l) (o, op, cl) := by
      unfold spec_DrawLayout.f spec_l1Open.f
      simp only [Option.bind_some]
      rw [ev_bind e, ev_bind e2]
      exact ev_some.2 rfl
    have hI : impl_Layout.f o op cl = some (layB o op cl) := if_pos ⟨by omega, by omega, by omega⟩
    have hf := layB_few o op cl
    rw [ev_bind hD, ev_bind (spec_Layout_ev o op cl (by omega) (by omega))]
    simp only [hI, Option.bind_some, if_true]
    rw [ev_bind (sameItems_self _ (by omega)), ev_succ]
    simp only [laws_FnLaidOut.j0, Bool.not_true, Bool.false_eq_true, if_false]
    by_cases hc : (layB o op cl).2.1 = 0
    · rw [ev_ite, if_pos hc]
      obtain ⟨h1, h2, h3, h4, h5⟩ := layB_laid hc
      have hP : impl_Plain.f (layB o op cl).1 = some o := by
        unfold impl_Plain.f
        rw [if_pos (by omega)]
        exact congrArg some h1
      have fin : Ev (fun k => laws_FnLaidOut.j1 k o (layB o op cl).1 false) true := by
        rw [ev_succ]
        simp only [laws_FnLaidOut.j1, Bool.false_eq_true, if_false]
        exact count_loop o _ (by omega) hP (by omega) h3 h4 0 (by omega) 0 (by simp)
      rw [ev_bind (impl_NestOf_ev _)]
      by_cases h5k : (layB o op cl).1.length ≤ 5000
      · obtain ⟨r, e1, e2⟩ := h2 h5k
        rw [ev_ite, if_pos (by omega), e1, ev_ite, if_pos rfl]
        simp only [e2, bne_self_eq_false]
        exact fin
      · rw [ev_ite, if_neg (by omega)]
        exact fin
    · rw [ev_ite, if_neg hc]
      exact ev_some.2 rfl
  · rw [if_pos (by simp; omega)]
    exact ev_some.2 rfl
end Go.Proofs.Ytlbjdpahhgokkaa.fnLaidOut.Pure
-- The kit's printed words WSized, cut down by wip/gen/pack.py to what this proof reaches.
/- The law FnLaidOut holds: every call returns true and leaves its arguments as they were. Conditions: none beyond what the given row says. This text: the row, out of the walk's contract and the pure statement. -/
namespace Go.Proofs.Ytlbjdpahhgokkaa.fnLaidOut
open Go.ChangeShapes Go.WideShapes Go.ChangeAt Go.RowKit Go.Proofs.YtlbjdpahhgokkaaW.PrintWords Go.Proofs.YtlbjdpahhgokkaaOpen Go.Proofs.Ytlbjdpahhgokkaa.P
open Go.ChangeMaps (open_string shut_string)
set_option linter.unusedVariables false
set_option linter.unusedSimpArgs false
theorem own : ownKnob Try.prog.godebug = none := by kernel_rfl
theorem laidOut : laidOutB Try.prog = true := by kernel_rfl
set_option maxRecDepth 100000 in
theorem lifted (os : Os) (started : os.Started) (H : Type) (enc : TypeId × Value → H) :
    ReturnsInHanded {} Try.checked os 4 .any (Rows.fnLaidOutSpec.pre6 enc Try.prog Try.f4 Rows.fnLaidOutRow.domain false) (Rows.fnLaidOutSpec.post enc Try.prog Try.f4 false true false false) := by
  refine returnsInHanded_of_change_sized (C := Try.checked) own started (by kernel_rfl) Try.func4
    (ChangeSpec.witness6 (enc := enc) (C := Try.checked) false ⟨#[], #[.slice none 0 0], []⟩ 8 (by kernel_rfl) (by kernel_rfl) (by kernel_rfl) (by kernel_rfl)) ?_
  intro W base args ds gs before hval0 hW hcnd hsz0 _
  have hsz : (DataW.weightsEach Try.prog (Try.f4.params.toList ++ Rows.fnLaidOutSpec.plain.varTypes Try.prog) (ds ++ gs)).all (· ≤ reachBytes) = true := hsz0
  have hval : ∀ (j : Nat) t v, Try.f4.params[j]? = some t → args[j]? = some v → Value.okWide Try.prog W .any base t v := hval0
  have hW' := hW
  obtain ⟨p, q, hA0, hV, rfl, hfz, hnd⟩ := hW
  have hA : DataW.TrodAll enc Try.prog W 0 (fun _ => true) true Try.f4.params.toList args.toList ds p := hA0
  rw [Try.params4] at hA hval hsz
  obtain ⟨v0, vs0, d0, ds0, p0, q0, hargs, rfl, rfl, h0, r0⟩ := trodAll_cons hA
  obtain ⟨rfl, rfl, rfl⟩ := trodAll_nil r0
  obtain rfl : args = #[v0] := by cases args; simp_all
  obtain ⟨rfl, rfl⟩ := trodVars_none hV
  have k0' := h0
  have lt0 : ∀ x ∈ p0, x.block < W.heap.size := by obtain ⟨m, hm⟩ := k0'; exact DataW.trod_lt m _ _ _ hm
  obtain ⟨a0, len0, cap0, rfl⟩ := okWide_slice Try.underlying39 (hval 0 39 v0 rfl rfl)
  obtain ⟨fuel0, hf0⟩ := h0
  have hf0' : DataW.trod enc Try.prog W 0 (fun _ => true) true fuel0 39 [.slice a0 len0 cap0] = some (d0, p0) := hf0
  obtain ⟨x0, ⟨A0, c0, he0, hl0, hC0⟩, hG0⟩ := (opens_slice Try.underlying39 (by kernel_rfl) (opens_int Try.underlying5 (by kernel_rfl))).op enc W 0 (fun _ => true) true fuel0 _ _ hf0'
  obtain ⟨rfl, rfl, rfl⟩ : a0 = A0 ∧ len0 = x0.length ∧ cap0 = c0 := by simpa using he0
  clear hA0 hval0 hsz0 hsz
  obtain ⟨k, hk⟩ := Pure.pure_FnLaidOut x0 hG0
  refine (laws_FnLaidOut.calls k _ _ x0 true W hC0 hl0 hk).mono fun e W' ⟨he, bel0⟩ => ?_
  have bel : Below W.heap.size W W' := bel0
  subst he
  exact ⟨_, rfl, _, _, _, [], _, [], hW', trodAll_mk1 (shut_bool Try.underlying4 _), (trodAll_cons_mk (Below.trod laidOut (by kernel_rfl) (of_decide_eq_true (by kernel_rfl)) k0' bel lt0) trodAll_mk0), rfl, bel.frame _, fun h => by cases h⟩
theorem over : Rows.fnLaidOutRow.holds Try.pinned (OpenSpec.ofChange Rows.fnLaidOutSpec) :=
  OpenClaim.holds_of_wide 4 Try.f4 rfl rfl rfl rfl rfl rfl rfl ⟨rfl, rfl, rfl, rfl, rfl⟩ rfl rfl rfl rfl rfl (by kernel_rfl) Try.func4 (by kernel_rfl)
    (of_decide_eq_true (by kernel_rfl)) (by unfold Func.isWrapper; first | (rw [if_pos (by decide +kernel)]; kernel_rfl) | (rw [if_neg (by decide +kernel)]; exact ⟨rfl, rfl⟩))
    (fun os started H enc _ => lifted os started H enc)
theorem proved : Rows.FnLaidOutSaid := over
#print axioms proved
end Go.Proofs.Ytlbjdpahhgokkaa.fnLaidOut
namespace Go.Proofs.Ytlbjdpahhgokkaa
/-- The row, under a short name, for the claim. -/
theorem fnLaidOut_holds : Rows.FnLaidOutSaid := fnLaidOut.proved
end Go.Proofs.Ytlbjdpahhgokkaa
