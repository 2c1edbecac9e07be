/- From what the row hands in to what the walks ask: an argument read as a datum is a row of elements; the laid tables are the globals. -/
import Derived.Test.YtafbmlhgcmlmpaaDoorVa
import Derived.Test.YtafbmlhgcmlmpaaDoorRows
import Derived.Deep.Slices
import Derived.Deep.Fields
import Derived.ProofKit
import Derived.LaidMore
import Derived.OpenShut
import Derived.Stop.Joined
import Derived.MakeChecks
import Derived.Lib.LaidTab
namespace Go.Proofs.YtafbmlhgcmlmpaaDoor.PT
open Go.ChangeShapes Go.WideShapes Go.Deep Go.ChangeAt Go.RowKit Go.Proofs.YtafbmlhgcmlmpaaDoorW.PrintWords Go.Proofs.YtafbmlhgcmlmpaaDoorW.PrintLast Go.Proofs.YtafbmlhgcmlmpaaDoorW.PrintMore
set_option linter.unusedVariables false
set_option linter.unusedSimpArgs false
section
variable {H : Type} {enc : TypeId × Value → H} {P : Program} {w : World} {base : Nat} {spare : Nat → Bool} {held : Bool}
def Opens (enc : TypeId × Value → H) (P : Program) (w : World) (base : Nat) (spare : Nat → Bool) (held : Bool) {α : Type} (d : Kd α) (t : TypeId) (Q : α → Prop) : Prop :=
  ∀ fuel cs x, DataW.trod enc P w base spare held fuel t cs = some x → ∃ y, d.K w y cs ∧ Q y
theorem list_of {α : Type} (R : Nat → α → Prop) : ∀ (n : Nat), (∀ i, i < n → ∃ y, R i y) → ∃ l : List α, l.length = n ∧ ∀ i y, l[i]? = some y → R i y
  | 0, _ => ⟨[], rfl, fun i y h => by simp at h⟩
  | n + 1, h => by
    obtain ⟨l, hl, hr⟩ := list_of R n (fun i hi => h i (by omega))
    obtain ⟨y, hy⟩ := h n (by omega)
    refine ⟨l ++ [y], by simp [hl], fun i z hz => ?_⟩
    by_cases hi : i < l.length
    · rw [List.getElem?_append_left hi] at hz
      exact hr i z hz
    · rw [List.getElem?_append_right (by omega)] at hz
      obtain ⟨h0, _⟩ := List.getElem?_eq_some_iff.1 hz
      have : i - l.length = 0 := by simp at h0; omega
      rw [this] at hz
      simp at hz
      subst hz
      rw [show i = n from by omega]
      exact hy
theorem opens_int {k : IntKind} {t : TypeId} (ht : P.underlying t = some (.int k)) : Opens enc P w base spare held (Kd.int k) t (fun n => (Lit.int k n).wf = true) := by
  intro fuel cs x h
  obtain ⟨n, rfl, _, hw⟩ := DataW.trod_int ht h
  exact ⟨n, rfl, hw⟩
theorem opens_string {t : TypeId} (ht : P.underlying t = some .string) : Opens enc P w base spare held Kd.string t (fun s => s.size ≤ maxLen) := by
  intro fuel cs x h
  obtain ⟨n, rfl, _, hw⟩ := DataW.trod_string ht h
  exact ⟨n, rfl, hw⟩
theorem opens_slice {α : Type} {d : Kd α} {t e : TypeId} {Q : α → Prop} (ht : P.underlying t = some (.slice e)) (hsz : P.cellsOf e = d.sz) (h0 : Opens enc P w base spare held d e Q) :
    Opens enc P w base spare held (Kd.slice e d) t (fun l => ∀ y ∈ l, Q y) := by
  intro fuel cs x h
  rcases open_slice ht h with ⟨rfl, _⟩ | ⟨a, len, cap, m, n, D, Pl, rfl, hb, hl, hm, hmm, _, hi⟩
  · exact ⟨[], ⟨none, 0, rfl, Nat.le_refl _, ⟨rfl, by simp, fun z => by simp at z⟩⟩, fun y hy => by cases hy⟩
  · have hle : len ≤ m := by rw [hmm]; split <;> omega
    obtain ⟨l, hlen, hr⟩ := list_of (fun i y => ∃ cs', d.K w y cs' ∧ Q y ∧ ∀ j u, cs'[j]? = some u → w.cell? (a.add (i * d.sz + j)) = some u) len (fun i hi' => by
      obtain ⟨cs', hc, hd⟩ := hi i (by omega)
      obtain ⟨y, hy, hq⟩ := h0 _ _ _ hd
      obtain ⟨_, hcl, hat⟩ := World.cells?_some hc
      rw [hsz] at hcl hat
      refine ⟨y, cs', hy, hq, fun j u hu => ?_⟩
      have hj : j < d.sz := by rw [← hcl]; exact (List.getElem?_eq_some_iff.1 hu).1
      rw [← Go.Deep.add_add]
      exact (hat j hj).trans hu)
    subst hlen
    refine ⟨l, ⟨some a, cap, rfl, hl, ⟨rfl, by unfold maxLen at hm; omega, fun _ => ⟨a, rfl, fun j p hj => ?_⟩⟩⟩, fun y hy => ?_⟩
    · obtain ⟨cs', hk, _, hc⟩ := hr j p hj
      exact ⟨cs', d.K_len hk, hk, hc⟩
    · obtain ⟨j, hj, rfl⟩ := List.getElem_of_mem hy
      obtain ⟨_, _, hq, _⟩ := hr j _ (List.getElem?_eq_getElem hj)
      exact hq
end
section
variable {H : Type} {enc : TypeId × Value → H} {w : World} {base : Nat} {spare : Nat → Bool} {held : Bool}
theorem wf64 {n : Int} (h : (Lit.int .i64 n).wf = true) : -9223372036854775808 ≤ n ∧ n ≤ 9223372036854775807 := by
  simp only [Lit.wf, IntKind.min, IntKind.max, IntKind.signed, IntKind.bits, Bool.and_eq_true, decide_eq_true_eq, if_true] at h
  omega
def Node64 (x : S33) : Prop := In64 x ∧ (-9223372036854775808 ≤ x.f1 ∧ x.f1 ≤ 9223372036854775807) ∧ x.f4.size ≤ maxLen
theorem c3_1 : Tryd.prog.cellsOf 3 = 1 := by kernel_rfl
theorem c9_1 : Tryd.prog.cellsOf 9 = 1 := by kernel_rfl
theorem c28_1 : Tryd.prog.cellsOf 28 = 1 := by kernel_rfl
theorem c33_6 : Tryd.prog.cellsOf 33 = 6 := by kernel_rfl
theorem c22_1 : Tryd.prog.cellsOf 22 = 1 := by kernel_rfl
theorem c24_1 : Tryd.prog.cellsOf 24 = 1 := by kernel_rfl
theorem at_one {cs : List Value} {i : Nat} (h : i < cs.length) : (cs.drop i).take 1 = [cs[i]] := by
  rw [List.drop_eq_getElem_cons h]
  rfl
set_option maxRecDepth 100000 in
theorem opens_33 : Opens enc Tryd.prog w base spare held k33 33 Node64 := by
  intro fuel cs x h
  obtain ⟨xs, n, _, _, hcl, hxl, hf⟩ := DataW.trod_struct Tryd.underlying33 h
  rw [c33_6] at hcl
  have hxl : xs.length = 6 := hxl
  obtain ⟨a0, a1, a2, a3, a4, a5, rfl⟩ : ∃ a0 a1 a2 a3 a4 a5, cs = [a0, a1, a2, a3, a4, a5] := by
    match cs, hcl with
    | [a0, a1, a2, a3, a4, a5], _ => exact ⟨a0, a1, a2, a3, a4, a5, rfl⟩
  have g : ∀ (i : Nat) (hi : i < 6) (t : TypeId) (f : Field), (#[{ name := "Kind", type := 3, offset := 0, embedded := false, tag := "", pkgPath := "", byteOffset := 0 }, { name := "N", type := 3, offset := 1, embedded := false, tag := "", pkgPath := "", byteOffset := 8 }, { name := "At", type := 3, offset := 2, embedded := false, tag := "", pkgPath := "", byteOffset := 16 }, { name := "To", type := 3, offset := 3, embedded := false, tag := "", pkgPath := "", byteOffset := 24 }, { name := "Label", type := 9, offset := 4, embedded := false, tag := "", pkgPath := "", byteOffset := 32 }, { name := "L", type := 28, offset := 5, embedded := false, tag := "", pkgPath := "", byteOffset := 48 }] : Array Field)[i]? = some f → f.offset = i → f.type = t → Tryd.prog.cellsOf t = 1 → ∃ y, DataW.trod enc Tryd.prog w base spare held n t [([a0, a1, a2, a3, a4, a5] : List Value)[i]'(by simp; omega)] = some y := by
    intro i hi t f hfi ho ht hc
    have := hf i f hfi
    rw [ho, ht, hc, at_one (by simp; omega)] at this
    exact ⟨_, this.trans (List.getElem?_eq_getElem (by omega))⟩
  obtain ⟨y0, h0⟩ := g 0 (by omega) 3 _ rfl rfl rfl c3_1
  obtain ⟨y1, h1⟩ := g 1 (by omega) 3 _ rfl rfl rfl c3_1
  obtain ⟨y2, h2⟩ := g 2 (by omega) 3 _ rfl rfl rfl c3_1
  obtain ⟨y3, h3⟩ := g 3 (by omega) 3 _ rfl rfl rfl c3_1
  obtain ⟨y4, h4⟩ := g 4 (by omega) 9 _ rfl rfl rfl c9_1
  obtain ⟨y5, h5⟩ := g 5 (by omega) 28 _ rfl rfl rfl c28_1
  obtain ⟨n0, k0, w0⟩ := opens_int Tryd.underlying3 _ _ _ h0
  obtain ⟨n1, k1, w1⟩ := opens_int Tryd.underlying3 _ _ _ h1
  obtain ⟨n2, k2, w2⟩ := opens_int Tryd.underlying3 _ _ _ h2
  obtain ⟨n3, k3, w3⟩ := opens_int Tryd.underlying3 _ _ _ h3
  obtain ⟨s4, k4, w4⟩ := opens_string Tryd.underlying9 _ _ _ h4
  obtain ⟨l5, ⟨A5, c5, k5, q5, r5⟩, _⟩ := opens_slice (d := Kd.int .i64) Tryd.underlying28 c3_1 (opens_int Tryd.underlying3) _ _ _ h5
  have k0 : [a0] = [Value.int .i64 n0] := k0
  have k1 : [a1] = [Value.int .i64 n1] := k1
  have k2 : [a2] = [Value.int .i64 n2] := k2
  have k3 : [a3] = [Value.int .i64 n3] := k3
  have k4 : [a4] = [Value.string s4] := k4
  have k5 : [a5] = [Value.slice A5 l5.length c5] := k5
  simp only [List.cons.injEq, and_true] at k0 k1 k2 k3 k4 k5
  rw [k0, k1, k2, k3, k4, k5]
  exact ⟨⟨n0, n1, n2, n3, s4, l5⟩, k33_mk w ⟨n0, n1, n2, n3, s4, l5⟩ q5 r5, ⟨⟨wf64 w2, wf64 w3⟩, wf64 w1, w4⟩⟩
set_option maxRecDepth 100000 in
theorem tree_open {v : Value} {d : DataW H} {p : List MemPlace} {r : Reach} {b0 : Nat} (hv : Value.okWide Tryd.prog w r b0 24 v) (h : DataW.Trod enc Tryd.prog w base spare held 24 v d p) :
    ∃ (A : Option Addr) (c : Nat) (l : List S33), v = .agg #[.slice A l.length c] ∧ l.length ≤ c ∧ Kd.C k33 w A l.length l ∧ ∀ x ∈ l, Node64 x := by
  obtain ⟨cs, rfl, hsz⟩ := okWide_struct Tryd.underlying24 hv
  obtain ⟨fuel, hf⟩ := h
  obtain ⟨xs, n, _, _, hcl, hxl, hff⟩ := DataW.trod_struct Tryd.underlying24 hf
  have h0 := hff 0 _ rfl
  rw [c24_1] at hsz
  obtain ⟨cl⟩ := cs
  match cl, hsz with
  | [a0], _ =>
    have hxl : xs.length = 1 := hxl
    have h0' : DataW.trod enc Tryd.prog w base spare held n 22 [a0] = xs[0]? := by
      have e : ((Value.agg #[a0]).cells.toList.drop 0).take (Tryd.prog.cellsOf 22) = [a0] := by rw [c22_1]; rfl
      exact (congrArg (DataW.trod enc Tryd.prog w base spare held n 22) e).symm.trans h0
    obtain ⟨l, ⟨A, c, k, q, rr⟩, hq⟩ := opens_slice (d := k33) Tryd.underlying22 c33_6 opens_33 _ _ _ (h0'.trans (List.getElem?_eq_getElem (by omega)))
    have k : [a0] = [Value.slice A l.length c] := k
    simp only [List.cons.injEq, and_true] at k
    subst k
    exact ⟨A, c, l, rfl, q, rr, hq⟩
end
def laid4 : List (String × DataW Unit) := [("math/bits.deBruijn32tab", Rows.laid_math_bits_deBruijn32tab), ("math/bits.deBruijn64tab", Rows.laid_math_bits_deBruijn64tab), ("internal/strconv.uint64pow10", Rows.laid_internal_strconv_uint64pow10), ("gramarye/name.keywords", Rows.laid_gramarye_name_keywords)]
theorem tKw : (Tryd.prog.globals[0]?).map (·.type) = some 196 := by kernel_rfl
theorem tPow : (Tryd.prog.globals[2]?).map (·.type) = some 219 := by kernel_rfl
theorem c219 : Tryd.prog.cellsOf 219 = 20 := by kernel_rfl
theorem c100 : Tryd.prog.cellsOf 100 = 1 := by kernel_rfl
theorem u100' : Tryd.prog.underlying 100 = some (.int .u64) := by kernel_rfl
theorem c196 : Tryd.prog.cellsOf 196 = 4 := by kernel_rfl
set_option maxRecDepth 100000 in
theorem GL_of_laid {W : World} (h : laidMetH Tryd.prog laid4 W) : GL W := by
  rw [MakeChecks.laidMetH_plain _ _ _ (by kernel_rfl)] at h
  obtain ⟨ps, ⟨g0, t0, cs0, f0, p0, q0, hg0, ht0, hv0, hd0, ⟨g1, t1, cs1, f1, p1, q1, hg1, ht1, hv1, hd1, ⟨g2, t2, cs2, f2, p2, q2, hg2, ht2, hv2, hd2, ⟨g3, t3, cs3, f3, p3, q3, hg3, ht3, hv3, hd3, _, _⟩, _⟩, _⟩, _⟩, _⟩ := h
  obtain rfl := Option.some.inj (gPow.symm.trans hg2)
  obtain rfl := Option.some.inj (tPow.symm.trans ht2)
  obtain rfl := Option.some.inj (gKw.symm.trans hg3)
  obtain rfl := Option.some.inj (tKw.symm.trans ht3)
  refine ⟨?_, ?_⟩
  · obtain ⟨xs, m, rfl, hx, hcl, hxl, hel⟩ := DataW.trod_array Tryd.underlying196 hd3
    rw [c196] at hcl
    obtain ⟨cl⟩ := cs3
    match cl, hcl with
    | [a0, a1, a2, a3], _ =>
      match xs, hxl, hx, hel with
      | [x0, x1, x2, x3], _, hx, hel =>
        have s0 : ∃ s : ByteArray, [a0] = [Value.string s] ∧ x0 = (.lit (.string s.data.toList), []) ∧ s.size ≤ maxLen := DataW.trod_string Tryd.underlying9 (by have := hel 0 (by decide); rw [c9_1] at this; exact this)
        have s1 : ∃ s : ByteArray, [a1] = [Value.string s] ∧ x1 = (.lit (.string s.data.toList), []) ∧ s.size ≤ maxLen := DataW.trod_string Tryd.underlying9 (by have := hel 1 (by decide); rw [c9_1] at this; exact this)
        have s2 : ∃ s : ByteArray, [a2] = [Value.string s] ∧ x2 = (.lit (.string s.data.toList), []) ∧ s.size ≤ maxLen := DataW.trod_string Tryd.underlying9 (by have := hel 2 (by decide); rw [c9_1] at this; exact this)
        have s3 : ∃ s : ByteArray, [a3] = [Value.string s] ∧ x3 = (.lit (.string s.data.toList), []) ∧ s.size ≤ maxLen := DataW.trod_string Tryd.underlying9 (by have := hel 3 (by decide); rw [c9_1] at this; exact this)
        obtain ⟨b0, e0, rfl, _⟩ := s0
        obtain ⟨b1, e1, rfl, _⟩ := s1
        obtain ⟨b2, e2, rfl, _⟩ := s2
        obtain ⟨b3, e3, rfl, _⟩ := s3
        have hx := (Prod.mk.inj hx).1
        simp only [Rows.laid_gramarye_name_keywords, List.map_cons, List.map_nil, DataW.agg.injEq, List.cons.injEq, DataW.lit.injEq, Lit.string.injEq, and_true] at hx
        obtain ⟨f0, f1, f2, f3⟩ := hx
        have g : ∀ (b : ByteArray) (l : List UInt8), l = b.data.toList → b = ⟨l.toArray⟩ := by
          rintro ⟨⟨l⟩⟩ l' rfl
          rfl
        simp only [List.cons.injEq, and_true] at e0 e1 e2 e3
        rw [hv3, e0, e1, e2, e3, g b0 _ f0, g b1 _ f1, g b2 _ f2, g b3 _ f3]
        rfl
  · unfold Lib.TabIs
    rw [hv2, ← Lib.cells_of_tab (zs := Lib.pow10Tab) Tryd.underlying219 u100' c100 c219 hd2]
end Go.Proofs.YtafbmlhgcmlmpaaDoor.PT
