/- The contracts of tree.Word, tree.Places, tree.Clean: what goes through the nodes of a tree that may be. -/
import Derived.RangeFuncBox
import Derived.RangeFuncNested
import Derived.RangeFuncLeaves
import Derived.Shelf.Abstract
import Derived.WalkKit
import Derived.OwnWalkIn
import Derived.TacticsInMore
import Derived.LoopNIn
import Derived.LoopIn
import Derived.Maps.AppendAt
import Derived.Test.YtafbmlhgcmlmpaaDoorTMay
namespace Go.Proofs.YtafbmlhgcmlmpaaDoor.PT
open Go.RowKit Go.Shelf Go.Proofs.YtafbmlhgcmlmpaaDoorW.PrintWords Go.Proofs.YtafbmlhgcmlmpaaDoorW.PrintLast Go.Proofs.YtafbmlhgcmlmpaaDoorW.PrintMore
set_option linter.unusedVariables false
set_option linter.unusedSimpArgs false
attribute [local go_sem] Oper.semAt_some
abbrev Raw := S33 × Option Addr × Nat
abbrev El (P : S33 → Prop) := { x : Raw // P x.1 }
def cellsE (x : Raw) : Array Value := #[.int .i64 x.1.f0, .int .i64 x.1.f1, .int .i64 x.1.f2, .int .i64 x.1.f3, .string x.1.f4, .slice x.2.1 x.1.f5.length x.2.2]
theorem take_succ_rd {l : List S33} {k : Nat} (h : k < l.length) : l.take (k + 1) = l.take k ++ [rd_T33 l (k : Int)] := by
 rw [List.take_succ_eq_append_getElem h]
 simp [rd_T33, h]
def IterPost {P : S33 → Prop} (l : List S33) (J Jx : List (El P) → World → Prop) (e : Ending) (W' : World) : Prop := (∃ v, e = .returned v) ∧
   ((∃ xs, (xs.map (·.1.1) = if mayB l = true then l else []) ∧ J xs W') ∨ (∃ pre, (mayB l = true ∧ pre.map (·.1.1) <+: l) ∧ Jx pre W'))
theorem IterPost.none_ {l : List S33} {P : S33 → Prop} {J Jx : List (El P) → World → Prop} {v : Value} {W' : World} (hm : mayB l = false) (h : J [] W') : IterPost l J Jx (.returned v) W' := ⟨⟨_, rfl⟩, .inl ⟨[], by simp [hm], h⟩⟩
theorem IterPost.all_ {l : List S33} {P : S33 → Prop} {J Jx : List (El P) → World → Prop} {v : Value} {W' : World} (hm : mayB l = true) {xs : List (El P)} (hx : xs.map (·.1.1) = l) (h : J xs W') : IterPost l J Jx (.returned v) W' := ⟨⟨_, rfl⟩, .inl ⟨xs, by rw [if_pos hm]; exact hx, h⟩⟩
theorem IterPost.stop_ {l : List S33} {P : S33 → Prop} {J Jx : List (El P) → World → Prop} {v : Value} {W' : World} (hm : mayB l = true) {xs : List (El P)} (hx : xs.map (·.1.1) <+: l) (h : Jx xs W') : IterPost l J Jx (.returned v) W' := ⟨⟨_, rfl⟩, .inr ⟨xs, ⟨hm, hx⟩, h⟩⟩
set_option maxRecDepth 100000 in
set_option maxHeartbeats 2000000 in
theorem all1_any (P : S33 → Prop) (l : List S33) (A : Option Addr) (c : Nat) (w0 : World) (hr : Kd.C k33 w0 A l.length l) (hc : l.length ≤ c) (hG : GL w0) (hP : mayB l = true → ∀ x ∈ l, P x) (m : Nat) (lp Bt : Nat) (J Jx : List (El P) → World → Prop) (W : World)
  (hW : Below w0.heap.size w0 W) (hJ : AbidesFrom W.heap.size J)
  (hY : ∀ pre x W, J pre W → pre.length < (if mayB l = true then l else []).length → YieldAt Fence.wide m Tryd.prog lp #[.agg (cellsE x.1)] W fun e W' =>
   (e = .returned (.bool true) ∧ J (pre ++ [x]) W' ∧ Below w0.heap.size W W') ∨ (e = .returned (.bool false) ∧ Jx (pre ++ [x]) W'))
  (hBt : W.cell? ⟨Bt, 0, none⟩ = some (.slice A l.length c)) (h0 : J [] W) :
  CallsIn Fence.wide (m + 1) Tryd.prog 78 #[.func (.yield lp) #[] #[], .pointer (some ⟨Bt, 0, none⟩)] W (IterPost l J Jx) := by
 have hu24 := Tryd.underlying24
 have hu33 := Tryd.underlying33
 have HR := Aside0.mk hr
 have HW := Aside0.mk hW
 have HG := Aside0.mk hG
 have HJ := Aside0.mk hJ
 have HY := Aside0.mk hY
 have H0 := Aside0.mk h0
 have HPP := Aside0.mk hP
 clear hr hW hG hJ hY h0 hP
 cases hm : mayB l with
 | false =>
  have HM : Aside0 (tree_May.f l = some 4) := ⟨by simp [tree_May.f, hm]⟩
  have HMB := Aside0.mk hm
  clear hm
  refine callsIn_of_wp Tryd.func78 rfl trivial ?_ rfl
  simp only [Tryd.ntmps78, List.size_toArray, List.length_cons, List.length_nil, Nat.reduceAdd, Nat.reduceSub, Array.replicate_succ, Array.replicate_zero, List.push_toArray, List.append_toArray, List.nil_append, List.cons_append]
  gi_wp2_with (refine ⟨trivial, ?_⟩; gi_at_call 11; refine (callsIn_wide.2 (tree_May.calls A c l 4 W (Kd.C_below HR.out HW.out) hc (GL_below HG.out HW.out) HM.out)).mono ?_; rintro e w1 ⟨rfl, hb1⟩)
  refine bodyPost_ret (results_none rfl _ _ _) rfl ?_
  exact IterPost.none_ HMB.out (HJ.out [] W w1 none H0.out (grown_of_below hb1 none) (by simp))
 | true =>
  have HM : Aside0 (tree_May.f l = some 0) := ⟨by simp [tree_May.f, hm]⟩
  have HMB := Aside0.mk hm
  clear hm
  refine callsIn_of_wp Tryd.func78 rfl trivial ?_ rfl
  simp only [Tryd.ntmps78, List.size_toArray, List.length_cons, List.length_nil, Nat.reduceAdd, Nat.reduceSub, Array.replicate_succ, Array.replicate_zero, List.push_toArray, List.append_toArray, List.nil_append, List.cons_append]
  gi_wp2_with (refine ⟨trivial, ?_⟩; gi_at_call 11; refine (callsIn_wide.2 (tree_May.calls A c l 0 W (Kd.C_below HR.out HW.out) hc (GL_below HG.out HW.out) HM.out)).mono ?_; rintro e w1 ⟨rfl, hb1⟩; have hB1 := pw_cell_below hb1 hBt; have HB1 := Aside0.mk hb1; clear hBt hb1)
  gi_loopw [11] (fun i wr => ∃ (k : Nat) (pre : List (El P)), k ≤ l.length ∧ i = .int .i64 k ∧ Aside0 (pre.map (·.1.1) = l.take k) ∧ Aside0 (J pre wr) ∧ Aside0 (Below w0.heap.size w0 wr) ∧ Aside0 (W.heap.size ≤ wr.heap.size)) (fun i _ => l.length - (intOf i).toNat)
  case atStart => exact ⟨0, [], Nat.zero_le _, rfl, ⟨rfl⟩, ⟨HJ.out [] W w1 none H0.out (grown_of_below HB1.out none) (by simp)⟩, ⟨below_step HW.out HB1.out⟩, ⟨HB1.out.size⟩⟩
  case round =>
   obtain ⟨k, pre, hk, rfl, HP, HJk, HBk, HSk⟩ := hrel
   by_cases hlt : k < l.length
   ·
    obtain ⟨ad, A5, c5, hA, e0, e1, e2, e3, e4, e5, l5, g5⟩ := at_T33 (Kd.C_below HR.out HBk.out) (k : Int) (by omega) (by omega)
    subst hA
    have hk64 : (k : Int) + 1 ≤ 9223372036854775807 := by have := HR.out.2.1; omega
    have hka : 0 ≤ (k : Int) := by omega
    have hkb : (k : Int) < (l.length : Int) := by omega
    have hkd : decide ((k : Int) < (l.length : Int)) = true := decide_eq_true hkb
    have hkt : (k : Int).toNat = k := by omega
    rw [hkt] at e0 e1 e2 e3 e4 e5
    clear hkt
    have hp := take_succ_rd hlt
    have hpl : pre.length < l.length := by have := congrArg List.length HP.out; simp at this; omega
    have hPx : P (rd_T33 l (k : Int)) := HPP.out HMB.out _ (by simp [rd_T33, hlt])
    replace hpl : pre.length < (if mayB l = true then l else []).length := by rw [if_pos HMB.out]; exact hpl
    generalize rd_T33 l (k : Int) = x at *
    obtain ⟨xe, hxe⟩ : ∃ xe : El P, xe.1 = (x, A5, c5) := ⟨⟨_, hPx⟩, rfl⟩
    have HP2 : Aside0 ((pre ++ [xe]).map (·.1.1) = l.take (k + 1)) := ⟨by rw [hp, ← HP.out]; simp [hxe]⟩
    obtain ⟨fn, tmps, assign, body, hy, hR⟩ := HY.out pre xe (wr.alloc (.cells #[.int .i64 x.f0, .int .i64 x.f1, .int .i64 x.f2, .int .i64 x.f3, .string x.f4, .slice A5 x.f5.length c5] 33)) (HJ.out pre wr _ none HJk.out (World.grownBy_alloc wr _ none) (by simp)) hpl
    rw [hxe] at hy
    dsimp only [cellsE] at hy
    have HRD := Aside0.mk hR
    clear hp hpl l5 g5 hR hc hPx hxe
    gi_wp2_with fail
    refine HRD.out.mono ?_
    rintro e W3 (⟨rfl, hJ3, hk3⟩ | ⟨rfl, hJx3⟩)
    ·
     have HJ3 := Aside0.mk hJ3
     have HK3 : Aside0 (Below w0.heap.size wr W3) := ⟨((Below.refl w0.heap.size wr).alloc HBk.out.size _).trans hk3⟩
     have HS3 : Aside0 (W.heap.size ≤ W3.heap.size) := ⟨Nat.le_trans HSk.out HK3.out.size⟩
     clear hJ3 hk3 e0 e1 e2 e3 e4 e5 hy
     gi_wp2
     go_roundw
     case rel => exact ⟨k + 1, _, by omega, by go_num, HP2, HJ3, ⟨HBk.out.trans HK3.out⟩, HS3⟩
     case measure => simp [intOf]; omega
    ·
     have HJx3 := Aside0.mk hJx3
     clear hJx3 e0 e1 e2 e3 e4 e5 hy
     gi_wp2
     refine bodyPost_ret (results_none rfl _ _ _) rfl ?_
     exact IterPost.stop_ HMB.out (by rw [HP2.out]; exact List.take_prefix _ _) HJx3.out
   ·
    obtain rfl : k = l.length := by omega
    have hkd : decide ((l.length : Int) < (l.length : Int)) = false := by simp
    gi_wp2
    go_end0
    exact IterPost.all_ HMB.out (by rw [HP.out, List.take_length]) HJk.out
theorem all_stops (P : S33 → Prop) (l : List S33) (A : Option Addr) (c : Nat) (w0 : World) (hr : Kd.C k33 w0 A l.length l) (hc : l.length ≤ c) (hG : GL w0) (hP : mayB l = true → ∀ x ∈ l, P x) (m Bt : Nat) (W0 : World) (hW0 : Below w0.heap.size w0 W0) (hlt : Bt < W0.heap.size)
  (hBt : W0.cell? ⟨Bt, 0, none⟩ = some (.slice A l.length c)) :
  SeqStopsK Fence.wide (m + 1) Tryd.prog 78 #[.pointer (some ⟨Bt, 0, none⟩)] (fun x : El P => #[.agg (cellsE x.1)]) (Below w0.heap.size) (fun xs => xs.map (·.1.1) = if mayB l = true then l else []) (fun pre => mayB l = true ∧ pre.map (·.1.1) <+: l) (if mayB l = true then l else []).length W0 :=
 fun lp J Jx W hW hJ _ hY h0 => all1_any P l A c w0 hr hc hG hP m lp Bt J Jx W (hW0.trans (hW.mono hW0.size)) hJ hY ((hW.cell (p := ⟨Bt, 0, none⟩) hlt).trans hBt) h0
theorem all_any (A : Option Addr) (n c : Nat) (w : World) : Calls Tryd.prog 47 #[.agg #[.slice A n c]] w fun e w' => e = .returned (.func (.func 78) #[] #[.pointer (some ⟨w.heap.size, 0, none⟩)]) ∧ w.alloc (.cells #[.slice A n c] 24) = w' := by
 have hu24 := Tryd.underlying24
 go_enter Tryd.func47, Tryd.ntmps47
 go_wp2
 go_ret
 exact ⟨rfl, rfl⟩
def wordL (xs : List S33) : List Int := (xs.filter fun x => decide (x.f0 = 2)).map (·.f1)
theorem wordL_hit {P : S33 → Prop} (pre : List (El P)) {x : El P} (h : x.1.1.f0 = 2) : wordL ((pre ++ [x]).map (·.1.1)) = wordL (pre.map (·.1.1)) ++ [x.1.1.f1] := by simp [wordL, h]
theorem wordL_miss {P : S33 → Prop} (pre : List (El P)) {x : El P} (h : x.1.1.f0 ≠ 2) : wordL ((pre ++ [x]).map (·.1.1)) = wordL (pre.map (·.1.1)) := by simp [wordL, h]
theorem wordL_le (xs : List S33) : (wordL xs).length ≤ xs.length := by simp [wordL]; exact List.length_filter_le _ _
theorem blk_own {β : Type} (B : Nat) (cs : β → Array Value) (t : TypeId) : Own (fun s W => W.heap[B]? = some (.cells (cs s) t (0, 0))) := fun s X Y row hs hg hrow =>
 blk_grown hs hg (fun e' => by obtain ⟨o, ho, hc⟩ := hrow B e'.symm; rw [hs] at ho; cases ho; cases hc)
set_option maxRecDepth 100000 in
set_option maxHeartbeats 2000000 in
theorem word_any (l : List S33) (A : Option Addr) (c : Nat) (w : World) (hr : Kd.C k33 w A l.length l) (hc : l.length ≤ c) (hG : GL w) :
  Calls Tryd.prog 13 #[.agg #[.slice A l.length c]] w fun e W' => ∃ v, e = .returned v ∧ W'.ownsRow w.heap.size 3 1 v (wordL (if mayB l = true then l else [])).length ((wordL (if mayB l = true then l else [])).map (Value.int .i64)) ∧ Below w.heap.size w W' := by
 have hu24 := Tryd.underlying24
 have hu33 := Tryd.underlying33
 obtain ⟨i0, hi, hz0, hz1, hz2⟩ := info_parts info3
 obtain ⟨L0, hL0⟩ : ∃ L0, (if mayB l = true then l else []) = L0 := ⟨_, rfl⟩
 rw [hL0]
 have HL0 := Aside0.mk hL0
 have hbytes : L0.length ≤ 100000 := by
  rw [← hL0]
  split
  ·
   rename_i h; simp [mayB] at h; omega
  ·
   simp
 clear hL0
 refine (callsIn_wide (n := 6)).1 ?_
 refine callsIn_of_wp_marks Tryd.func13 rfl trivial ?_ rfl
 simp only [Tryd.ntmps13, List.size_toArray, List.length_cons, List.length_nil, Nat.reduceAdd, Nat.reduceSub, Array.replicate_succ, Array.replicate_zero, List.push_toArray, List.append_toArray, List.nil_append, List.cons_append]
 gi_wp2_with (refine ⟨trivial, ?_⟩; gi_at_call 47; refine (callsIn_wide.2 (all_any A l.length c _)).mono ?_; rintro e w' ⟨rfl, rfl⟩)
 have bO := (Boxed.new (w.alloc (.cells #[.slice A l.length c] 24)) 28 (.slice none 0 0)).alloc (.cells #[.slice A l.length c] 24)
 have bN := Boxed.new ((w.alloc (.cells #[.slice A l.length c] 24)).alloc (.cells #[.slice none 0 0] 28)) 24 (.slice A l.length c)
 simp only [World.size_alloc] at bO bN
 have hB0 : Below w.heap.size w (((w.alloc (.cells #[.slice A l.length c] 24)).alloc (.cells #[.slice none 0 0] 28)).alloc (.cells #[.slice A l.length c] 24)) := (((Below.refl _ w).alloc (Nat.le_refl _) _).alloc (by simp) _).alloc (by simp; omega) _
 have hsz : (((w.alloc (.cells #[.slice A l.length c] 24)).alloc (.cells #[.slice none 0 0] 28)).alloc (.cells #[.slice A l.length c] 24)).heap.size = w.heap.size + 3 := by simp
 obtain ⟨W0, hW0⟩ : ∃ W0, ((w.alloc (.cells #[.slice A l.length c] 24)).alloc (.cells #[.slice none 0 0] 28)).alloc (.cells #[.slice A l.length c] 24) = W0 := ⟨_, rfl⟩
 rw [hW0] at bO bN hB0 hsz ⊢
 clear hW0
 have HST := all_stops (fun _ => True) l A c w hr hc hG (fun _ _ _ => trivial) 4 (w.heap.size + 1 + 1) W0 hB0 (by omega) bN.cell
 simp only [HL0.out] at HST
 refine wpIn_rangeFunc_ownH rfl (by omega) (gf := 78) (lb := #[.pointer (some ⟨w.heap.size + 1 + 1, 0, none⟩)]) rfl trivial (enters_of Tryd.func78 (by kernel_rfl) rfl)
  HST belowK_t (belowK_b (by omega)) (Below.refl _ _) (fun _ => rfl)
  (fun pre W => (∃ v, Boxed W (w.heap.size + 1) 28 v ∧ W.ownsRow w.heap.size 3 1 v (wordL (pre.map (·.1.1))).length ((wordL (pre.map (·.1.1))).map (Value.int .i64)) ∧ True) ∧ Below w.heap.size w W)
  (fun _ _ _ => False)
  (OwnFrom.and (Own.from (holdsRow_own w.heap.size (w.heap.size + 1) 28 3 1 (fun pre : List (El fun _ => True) => (wordL (pre.map (·.1.1))).length) (fun pre => (wordL (pre.map (·.1.1))).map (Value.int .i64)) (fun _ _ => True)) _) (ownFrom_below (Nat.le_refl _) (by omega)))
  (fun _ _ _ _ _ hs _ _ => hs)
  ⟨⟨_, bO, World.ownsRow_nil _ _ _ _, trivial⟩, hB0⟩
  (fun x a' W => ∃ Bx, w.heap.size + 1 < Bx ∧ W.heap[Bx]? = some (.cells (cellsE x.1) 33 (0, 0)) ∧ a' = { tmps := #[.agg #[.slice A l.length c], .pointer (some ⟨w.heap.size, 0, none⟩), .slice none 0 0, .pointer (some ⟨w.heap.size + 1, 0, none⟩), .pointer (some ⟨Bx, 0, none⟩), .agg #[.slice A l.length c], .func (.func 78) #[] #[.pointer (some ⟨w.heap.size + 1 + 1, 0, none⟩)], .agg (cellsE x.1), undef, undef, undef, undef, undef, undef, undef, undef, undef], defers := [] })
  (fun x a' _ X Y row hs hg hr => by obtain ⟨Bx, h1, h2, h3⟩ := hs; exact ⟨Bx, h1, blk_own Bx (fun (_ : Unit) => cellsE x.1) 33 () X Y row h2 hg (fun r e => (hr r e).2), h3⟩)
  ?assign ?body ?done ?stop
 case assign =>
  rintro lp pre x W K ⟨⟨v, bS1, hrow, _⟩, hB1⟩ hK
  unfold cellsE at hK ⊢
  gi_wp2
  exact hK _ _ ((KeepsOthers.alloc _ _).from _) ((Below.refl _ W).alloc hB1.size _) ⟨⟨v, bS1.alloc _, hrow.alloc _, trivial⟩, hB1.alloc hB1.size _⟩ ⟨W.heap.size, bS1.lt, heap_alloc_new W _, rfl⟩
 case body =>
  rintro lp pre x a' W hl ⟨r, hr⟩ ⟨⟨v, hv, hrow, _⟩, hB⟩ ⟨Bx, hBx, bX, rfl⟩ hlt
  have hcv := hv.cell
  have x0 := blk_cell bX 0
  have x1 := blk_cell bX 1
  simp only [cellsE, List.getElem?_toArray, List.getElem?_cons_zero, List.getElem?_cons_succ] at x0 x1
  have hpl : (wordL (pre.map (·.1.1))).length ≤ pre.length := by have := wordL_le (pre.map (·.1.1)); simpa using this
  by_cases h2 : x.1.1.f0 = 2
  ·
   have hb : (x.1.1.f0 == 2) = true := by simp [h2]
   have HH := Aside0.mk (wordL_hit pre h2)
   clear h2
   gi_wp2_with (gi_at_builtin; refine wpListIn_append_own _ rfl _ _ 28 rfl w.heap.size 3 i0 (.int .i64 0) 1 8 Tryd.underlying28 hi hz0 hz1 hz2 rfl (by decide) _ _ _ rfl (hrow.alloc _) ⟨W.heap.size, 0, none⟩ 1 1 [.int .i64 x.1.1.f1] rfl rfl (cell_one_new _ _ _) (by simp [Value.oneCell']) (by unfold maxLen; omega) (by omega) (by have := hB.size; simp; omega) ?_; intro v' w1 hown' hgrow _; obtain ⟨g', cap', rfl⟩ := ownsRow_succ hown'; obtain ⟨hv1, hv2, hr2, hk2, hb2⟩ := hv.appended (by decide) hrow hB.size (by omega) hown' hgrow; have hc1 := hv1.cell; have hf1 := hv1.frozen)
   exact ⟨hk2.from _, hb2, ⟨_, hv2, by rw [HH.out]; simpa using hr2⟩, hB.trans hb2⟩
  ·
   have hb : (x.1.1.f0 == 2) = false := by simp [h2]
   have HH := Aside0.mk (wordL_miss pre h2)
   clear h2
   gi_wp2
   exact ⟨KeepsFrom.refl _ _, Below.refl _ _, ⟨v, hv, by rw [HH.out]; exact hrow⟩, hB⟩
 case done =>
  rintro D ys W hD hys ⟨⟨v, hv, hrow, _⟩, hB⟩ hK
  rw [hys] at hrow
  have hcv := hv.cell
  gi_wp2
  refine ⟨by simp, .inl ⟨_, _, rfl, run_takeDeferred hK, ?_⟩⟩
  exact ⟨_, results_tmp rfl _ _ _, v, rfl, ownsRow_putObj hrow _ hK rfl, hB.trans (belowK_b (w := w) (Nat.le_refl _) W D _ _ (by omega) hK rfl rfl)⟩
 case stop =>
  rintro D cd pre W _ _ h _
  exact h.elim
def spanL (a b : Int) : List Int := (List.range (b - a).toNat).map fun (j : Nat) => a + (j : Int)
theorem spanL_nil (a : Int) : spanL a a = [] := by simp [spanL]
theorem spanL_snoc {a k : Int} (h : a ≤ k) : spanL a (k + 1) = spanL a k ++ [k] := by
 unfold spanL
 rw [show (k + 1 - a).toNat = (k - a).toNat + 1 from by omega, List.range_succ, List.map_append]
 congr 1
 simp
 omega
theorem spanL_length (a b : Int) : (spanL a b).length = (b - a).toNat := by simp [spanL]
def SpanOk (x : S33) : Prop := 0 ≤ x.f2 ∧ x.f2 ≤ x.f3 ∧ x.f3 ≤ 100000
def placesL (xs : List S33) : List Int := xs.flatMap fun x => if x.f0 = 2 ∨ x.f0 = 3 then spanL x.f2 x.f3 else []
theorem placesL_hit {P : S33 → Prop} (pre : List (El P)) {x : El P} (h : x.1.1.f0 = 2 ∨ x.1.1.f0 = 3) : placesL ((pre ++ [x]).map (·.1.1)) = placesL (pre.map (·.1.1)) ++ spanL x.1.1.f2 x.1.1.f3 := by simp [placesL, h]
theorem placesL_miss {P : S33 → Prop} (pre : List (El P)) {x : El P} (h : ¬ (x.1.1.f0 = 2 ∨ x.1.1.f0 = 3)) : placesL ((pre ++ [x]).map (·.1.1)) = placesL (pre.map (·.1.1)) := by simp [placesL, h]
theorem placesL_le : ∀ (pre : List (El SpanOk)), (placesL (pre.map (·.1.1))).length ≤ pre.length * 100000
 | [] => by simp [placesL]
 | x :: xs => by
  have h := placesL_le xs
  have h2 : (if x.1.1.f0 = 2 ∨ x.1.1.f0 = 3 then spanL x.1.1.f2 x.1.1.f3 else []).length ≤ 100000 := by
   obtain ⟨h0, h1, h2⟩ := x.2
   split
   ·
    rw [spanL_length]; omega
   ·
    simp
  simp only [placesL, List.map_cons, List.flatMap_cons, List.length_append, List.length_cons] at h ⊢
  omega
set_option maxRecDepth 100000 in
set_option maxHeartbeats 2000000 in
theorem places_any (l : List S33) (A : Option Addr) (c : Nat) (w : World) (hr : Kd.C k33 w A l.length l) (hc : l.length ≤ c) (hG : GL w) (hP : mayB l = true → ∀ x ∈ l, SpanOk x) :
  Calls Tryd.prog 14 #[.agg #[.slice A l.length c]] w fun e W' => ∃ v, e = .returned v ∧ W'.ownsRow w.heap.size 3 1 v (placesL (if mayB l = true then l else [])).length ((placesL (if mayB l = true then l else [])).map (Value.int .i64)) ∧ Below w.heap.size w W' := by
 have HPQ := Aside0.mk hP
 have hu24 := Tryd.underlying24
 have hu33 := Tryd.underlying33
 obtain ⟨i0, hi, hz0, hz1, hz2⟩ := info_parts info3
 obtain ⟨L0, hL0⟩ : ∃ L0, (if mayB l = true then l else []) = L0 := ⟨_, rfl⟩
 rw [hL0]
 have HL0 := Aside0.mk hL0
 have hbytes : L0.length ≤ 100000 := by
  rw [← hL0]
  split
  ·
   rename_i h; simp [mayB] at h; omega
  ·
   simp
 clear hL0
 clear hP
 refine (callsIn_wide (n := 6)).1 ?_
 refine callsIn_of_wp_marks Tryd.func14 rfl trivial ?_ rfl
 simp only [Tryd.ntmps14, List.size_toArray, List.length_cons, List.length_nil, Nat.reduceAdd, Nat.reduceSub, Array.replicate_succ, Array.replicate_zero, List.push_toArray, List.append_toArray, List.nil_append, List.cons_append]
 gi_wp2_with (refine ⟨trivial, ?_⟩; gi_at_call 47; refine (callsIn_wide.2 (all_any A l.length c _)).mono ?_; rintro e w' ⟨rfl, rfl⟩)
 have bO := (Boxed.new (w.alloc (.cells #[.slice A l.length c] 24)) 28 (.slice none 0 0)).alloc (.cells #[.slice A l.length c] 24)
 have bN := Boxed.new ((w.alloc (.cells #[.slice A l.length c] 24)).alloc (.cells #[.slice none 0 0] 28)) 24 (.slice A l.length c)
 simp only [World.size_alloc] at bO bN
 have hB0 : Below w.heap.size w (((w.alloc (.cells #[.slice A l.length c] 24)).alloc (.cells #[.slice none 0 0] 28)).alloc (.cells #[.slice A l.length c] 24)) := (((Below.refl _ w).alloc (Nat.le_refl _) _).alloc (by simp) _).alloc (by simp; omega) _
 have hsz : (((w.alloc (.cells #[.slice A l.length c] 24)).alloc (.cells #[.slice none 0 0] 28)).alloc (.cells #[.slice A l.length c] 24)).heap.size = w.heap.size + 3 := by simp
 obtain ⟨W0, hW0⟩ : ∃ W0, ((w.alloc (.cells #[.slice A l.length c] 24)).alloc (.cells #[.slice none 0 0] 28)).alloc (.cells #[.slice A l.length c] 24) = W0 := ⟨_, rfl⟩
 rw [hW0] at bO bN hB0 hsz ⊢
 clear hW0
 have HST := all_stops SpanOk l A c w hr hc hG HPQ.out 4 (w.heap.size + 1 + 1) W0 hB0 (by omega) bN.cell
 simp only [HL0.out] at HST
 refine wpIn_rangeFunc_ownH rfl (by omega) (gf := 78) (lb := #[.pointer (some ⟨w.heap.size + 1 + 1, 0, none⟩)]) rfl trivial (enters_of Tryd.func78 (by kernel_rfl) rfl)
  HST belowK_t (belowK_b (by omega)) (Below.refl _ _) (fun _ => rfl)
  (fun pre W => (∃ v, Boxed W (w.heap.size + 1) 28 v ∧ W.ownsRow w.heap.size 3 1 v (placesL (pre.map (·.1.1))).length ((placesL (pre.map (·.1.1))).map (Value.int .i64)) ∧ True) ∧ Below w.heap.size w W)
  (fun _ _ _ => False)
  (OwnFrom.and (Own.from (holdsRow_own w.heap.size (w.heap.size + 1) 28 3 1 (fun pre : List (El SpanOk) => (placesL (pre.map (·.1.1))).length) (fun pre => (placesL (pre.map (·.1.1))).map (Value.int .i64)) (fun _ _ => True)) _) (ownFrom_below (Nat.le_refl _) (by omega)))
  (fun _ _ _ _ _ hs _ _ => hs)
  ⟨⟨_, bO, World.ownsRow_nil _ _ _ _, trivial⟩, hB0⟩
  (fun x a' W => ∃ Bx, w.heap.size + 1 < Bx ∧ W.heap[Bx]? = some (.cells (cellsE x.1) 33 (0, 0)) ∧ a' = { tmps := #[.agg #[.slice A l.length c], .pointer (some ⟨w.heap.size, 0, none⟩), .slice none 0 0, .pointer (some ⟨w.heap.size + 1, 0, none⟩), .pointer (some ⟨Bx, 0, none⟩), undef, .agg #[.slice A l.length c], .func (.func 78) #[] #[.pointer (some ⟨w.heap.size + 1 + 1, 0, none⟩)], .agg (cellsE x.1), undef, undef, undef, undef, undef, undef, undef, undef, undef, undef, undef, undef, undef, undef, undef, undef, undef, undef, undef, undef, undef], defers := [] })
  (fun x a' _ X Y row hs hg hr => by obtain ⟨Bx, h1, h2, h3⟩ := hs; exact ⟨Bx, h1, blk_own Bx (fun (_ : Unit) => cellsE x.1) 33 () X Y row h2 hg (fun r e => (hr r e).2), h3⟩)
  ?assign ?body ?done ?stop
 case assign =>
  rintro lp pre x W K ⟨⟨v, bS1, hrow, _⟩, hB1⟩ hK
  unfold cellsE at hK ⊢
  gi_wp2
  exact hK _ _ ((KeepsOthers.alloc _ _).from _) ((Below.refl _ W).alloc hB1.size _) ⟨⟨v, bS1.alloc _, hrow.alloc _, trivial⟩, hB1.alloc hB1.size _⟩ ⟨W.heap.size, bS1.lt, heap_alloc_new W _, rfl⟩
 case body =>
  rintro lp pre x a' W hl ⟨r, hr⟩ ⟨⟨v, hv, hrow, _⟩, hB⟩ ⟨Bx, hBx, bX, rfl⟩ hlt
  have hcv := hv.cell
  have x0 := blk_cell bX 0
  have x2 := blk_cell bX 2
  have x3 := blk_cell bX 3
  simp only [cellsE, List.getElem?_toArray, List.getElem?_cons_zero, List.getElem?_cons_succ] at x0 x2 x3
  have hpl := placesL_le pre
  obtain ⟨hs0, hs1, hs2⟩ := x.2
  by_cases h2 : x.1.1.f0 = 2 ∨ x.1.1.f0 = 3
  ·
   have HH := Aside0.mk (placesL_hit pre h2)
   have HV := Aside0.mk hv
   have HRW := Aside0.mk hrow
   have HBB := Aside0.mk hB
   have HX := Aside0.mk bX
   clear hv hrow hB bX
   have hb : (x.1.1.f0 == 2) = true ∨ ((x.1.1.f0 == 2) = false ∧ (x.1.1.f0 == 3) = true) := by
    rcases h2 with h2 | h2
    ·
     exact .inl (by simp [h2])
    ·
     exact .inr ⟨by simp [h2], by simp [h2]⟩
   clear h2
   rcases hb with hb | ⟨hb, hb3⟩
   all_goals
    gi_wp2
    gi_loopw [5] (fun v5 wr => ∃ k : Int, v5 = .int .i64 k ∧ x.1.1.f2 ≤ k ∧ k ≤ x.1.1.f3 ∧ Aside0 (∃ v acc, acc = placesL (pre.map (·.1.1)) ++ spanL x.1.1.f2 k ∧ Boxed wr (w.heap.size + 1) 28 v ∧ wr.ownsRow w.heap.size 3 1 v acc.length (acc.map (Value.int .i64)))
     ∧ Aside0 (Below w.heap.size W wr) ∧ Aside0 (KeepsFrom W0.heap.size W wr) ∧ Aside0 (wr.heap[Bx]? = some (.cells (cellsE x.1) 33 (0, 0)))) (fun v5 _ => (x.1.1.f3 - intOf v5).toNat)
    case atStart => exact ⟨x.1.1.f2, rfl, by omega, hs1, ⟨⟨v, _, by rw [spanL_nil, List.append_nil], HV.out, HRW.out⟩⟩, ⟨Below.refl _ _⟩, ⟨KeepsFrom.refl _ _⟩, HX⟩
    case round =>
     obtain ⟨k, rfl, hk1, hk2, HI, HBW, HKF, HBX⟩ := hrel
     obtain ⟨v2, acc, hacc, hv2, hrow2⟩ := HI.out
     have HACC := Aside0.mk hacc
     have hcv2 := hv2.cell
     have y3 := blk_cell HBX.out 3
     simp only [cellsE, List.getElem?_toArray, List.getElem?_cons_zero, List.getElem?_cons_succ] at y3
     have hspl := spanL_length x.1.1.f2 k
     have hLL : acc.length ≤ pre.length * 100000 + 100000 := by rw [hacc, List.length_append]; omega
     clear hspl hcv x0 x2 x3 hacc HI
     by_cases hkt : k < x.1.1.f3
     ·
      have hkd : decide (k < x.1.1.f3) = true := decide_eq_true hkt
      have HS := Aside0.mk (spanL_snoc hk1)
      have hszr : w.heap.size ≤ wr.heap.size := (HBB.out.trans HBW.out).size
      gi_wp2_with (gi_at_builtin; refine wpListIn_append_own _ rfl _ _ 28 rfl w.heap.size 3 i0 (.int .i64 0) 1 8 Tryd.underlying28 hi hz0 hz1 hz2 rfl (by decide) _ _ _ rfl (hrow2.alloc _) ⟨wr.heap.size, 0, none⟩ 1 1 [.int .i64 k] rfl rfl (cell_one_new _ _ _) (by simp [Value.oneCell']) (by unfold maxLen; omega) (by omega) (by simp; omega) ?_; intro v' w1 hown' hgrow _; obtain ⟨g', cap', rfl⟩ := ownsRow_succ hown'; obtain ⟨hv1, hv3, hr2, hk3, hb2⟩ := hv2.appended (by decide) hrow2 hszr (by omega) hown' hgrow; have HBX1 := Aside0.mk (blk_far (p := ⟨w.heap.size + 1, 0, none⟩) (blk_grown (blk_alloc HBX.out _) hgrow (own_ne hrow2 HBX.out (by decide))) (by show Bx ≠ w.heap.size + 1; omega) (.slice (some ⟨g', 0, none⟩) (acc.length + 1) cap')); have hc1 := hv1.cell; have hf1 := hv1.frozen)
      go_roundw
      case rel => exact ⟨k + 1, rfl, by omega, by omega, ⟨⟨_, acc ++ [k], by rw [HS.out, HACC.out, List.append_assoc], hv3, by simpa using hr2⟩⟩, ⟨HBW.out.trans hb2⟩, ⟨HKF.out.trans (hk3.from _)⟩, HBX1⟩
      case measure => simp [intOf]; omega
     ·
      have hkd : decide (k < x.1.1.f3) = false := decide_eq_false hkt
      have HE : Aside0 (k = x.1.1.f3) := ⟨by omega⟩
      gi_wp2
      exact ⟨by rw [← hsz]; exact HKF.out, HBW.out, ⟨v2, hv2, by rw [HH.out, ← HE.out, ← HACC.out]; exact hrow2⟩, HBB.out.trans HBW.out⟩
  ·
   have hb : (x.1.1.f0 == 2) = false := by simp; omega
   have hb3 : (x.1.1.f0 == 3) = false := by simp; omega
   have HH := Aside0.mk (placesL_miss pre h2)
   clear h2
   gi_wp2
   exact ⟨KeepsFrom.refl _ _, Below.refl _ _, ⟨v, hv, by rw [HH.out]; exact hrow⟩, hB⟩
 case done =>
  rintro D ys W hD hys ⟨⟨v, hv, hrow, _⟩, hB⟩ hK
  rw [hys] at hrow
  have hcv := hv.cell
  gi_wp2
  refine ⟨by simp, .inl ⟨_, _, rfl, run_takeDeferred hK, ?_⟩⟩
  exact ⟨_, results_tmp rfl _ _ _, v, rfl, ownsRow_putObj hrow _ hK rfl, hB.trans (belowK_b (w := w) (Nat.le_refl _) W D _ _ (by omega) hK rfl rfl)⟩
 case stop =>
  rintro D cd pre W _ _ h _
  exact h.elim
def okC (x : S33) : Bool := decide (x.f0 = 1) || decide (x.f0 = 2)
def AllOk {P : S33 → Prop} (pre : List (El P)) : Prop := ∀ y ∈ pre, okC y.1.1 = true
def SomeNot {P : S33 → Prop} (pre : List (El P)) : Prop := ∃ y ∈ pre, okC y.1.1 = false
def cleanB (l : List S33) : Bool := mayB l && l.all okC
theorem clean_done {P : S33 → Prop} {l L0 : List S33} {me : Int} {ys : List (El P)} (hL : (if mayB l = true then l else []) = L0) (hm : tree_May.f l = some me) (hy : ys.map (·.1.1) = L0) (h : AllOk ys) : (me == 0) = cleanB l := by
 have hme := Option.some.inj hm
 cases hb : mayB l with
 | false =>
  rw [hb] at hme
  simp at hme
  subst hme
  simp [cleanB, hb]
 | true =>
  rw [hb] at hme
  simp at hme
  subst hme
  rw [if_pos hb] at hL
  subst hL
  simp only [cleanB, hb, Bool.true_and, beq_self_eq_true]
  rw [← hy]
  symm
  rw [List.all_eq_true]
  intro z hz
  obtain ⟨y, hy1, rfl⟩ := List.mem_map.1 hz
  exact h y hy1
theorem clean_stop {P : S33 → Prop} {l : List S33} {pre : List (El P)} (hp : mayB l = true ∧ pre.map (·.1.1) <+: l) (h : SomeNot pre) : false = cleanB l := by
 obtain ⟨y, hy, hn⟩ := h
 symm
 rw [Bool.eq_false_iff]
 intro hc
 simp only [cleanB, Bool.and_eq_true, List.all_eq_true] at hc
 have := hc.2 y.1.1 (hp.2.subset (List.mem_map.2 ⟨y, hy, rfl⟩))
 rw [hn] at this
 cases this
set_option maxRecDepth 100000 in
set_option maxHeartbeats 2000000 in
theorem clean_any (l : List S33) (A : Option Addr) (c : Nat) (w : World) (hr : Kd.C k33 w A l.length l) (hc : l.length ≤ c) (hG : GL w) :
  Calls Tryd.prog 15 #[.agg #[.slice A l.length c]] w fun e W' => e = .returned (.bool (cleanB l)) ∧ Below w.heap.size w W' := by
 have hu24 := Tryd.underlying24
 have hu33 := Tryd.underlying33
 obtain ⟨L0, hL0⟩ : ∃ L0, (if mayB l = true then l else []) = L0 := ⟨_, rfl⟩
 have HL0 := Aside0.mk hL0
 clear hL0
 have HR := Aside0.mk hr
 have HG := Aside0.mk hG
 obtain ⟨me, hme⟩ : ∃ me, tree_May.f l = some me := ⟨_, rfl⟩
 have HME := Aside0.mk hme
 clear hme
 refine (callsIn_wide (n := 6)).1 ?_
 refine callsIn_of_wp_marks Tryd.func15 rfl trivial ?_ rfl
 simp only [Tryd.ntmps15, List.size_toArray, List.length_cons, List.length_nil, Nat.reduceAdd, Nat.reduceSub, Array.replicate_succ, Array.replicate_zero, List.push_toArray, List.append_toArray, List.nil_append, List.cons_append]
 gi_wp2_with (refine ⟨trivial, ?_⟩; gi_at_call 47; refine (callsIn_wide.2 (all_any A l.length c _)).mono ?_; rintro e w' ⟨rfl, rfl⟩)
 have bT := ((Boxed.new w 24 (.slice A l.length c)).alloc (.cells #[.bool false] 4)).alloc (.cells #[.slice A l.length c] 24)
 have bO := (Boxed.new (w.alloc (.cells #[.slice A l.length c] 24)) 4 (.bool false)).alloc (.cells #[.slice A l.length c] 24)
 have bN := Boxed.new ((w.alloc (.cells #[.slice A l.length c] 24)).alloc (.cells #[.bool false] 4)) 24 (.slice A l.length c)
 simp only [World.size_alloc] at bO bN
 have hB0 : Below w.heap.size w (((w.alloc (.cells #[.slice A l.length c] 24)).alloc (.cells #[.bool false] 4)).alloc (.cells #[.slice A l.length c] 24)) := (((Below.refl _ w).alloc (Nat.le_refl _) _).alloc (by simp) _).alloc (by simp; omega) _
 have hsz : (((w.alloc (.cells #[.slice A l.length c] 24)).alloc (.cells #[.bool false] 4)).alloc (.cells #[.slice A l.length c] 24)).heap.size = w.heap.size + 3 := by simp
 obtain ⟨W0, hW0⟩ : ∃ W0, ((w.alloc (.cells #[.slice A l.length c] 24)).alloc (.cells #[.bool false] 4)).alloc (.cells #[.slice A l.length c] 24) = W0 := ⟨_, rfl⟩
 rw [hW0] at bT bO bN hB0 hsz ⊢
 clear hW0
 have HST := all_stops (fun _ => True) l A c w hr hc hG (fun _ _ _ => trivial) 4 (w.heap.size + 1 + 1) W0 hB0 (by omega) bN.cell
 simp only [HL0.out] at HST
 clear hr hG
 refine wpIn_rangeFunc_ownH rfl (by omega) (gf := 78) (lb := #[.pointer (some ⟨w.heap.size + 1 + 1, 0, none⟩)]) rfl trivial (enters_of Tryd.func78 (by kernel_rfl) rfl)
  HST belowK_t (belowK_b (by omega)) (Below.refl _ _) (fun _ => rfl)
  (fun pre W => (Aside0 (AllOk pre) ∧ Boxed W w.heap.size 24 (.slice A l.length c) ∧ Boxed W (w.heap.size + 1) 4 (.bool false)) ∧ Below w.heap.size w W)
  (fun cd pre W => (cd = .ret ∧ Aside0 (SomeNot pre) ∧ W.cell? ⟨w.heap.size + 1, 0, none⟩ = some (.bool false)) ∧ Below w.heap.size w W)
  (OwnFrom.and (Own.from (fun s X Y row hs hg hr => ⟨hs.1, boxed_own w.heap.size 24 (fun (_ : Unit) => .slice A l.length c) () X Y row hs.2.1 hg hr, boxed_own (w.heap.size + 1) 4 (fun (_ : Unit) => .bool false) () X Y row hs.2.2 hg hr⟩) _) (ownFrom_below (Nat.le_refl _) (by omega)))
  (fun cd => OwnFrom.and (Own.from (fun s X Y row hs hg hr => ⟨hs.1, hs.2.1, cell_kept hs.2.2 hg hr⟩) _) (ownFrom_below (Nat.le_refl _) (by omega)))
  ⟨⟨⟨fun y hy => by cases hy⟩, bT, bO⟩, hB0⟩
  (fun x a' W => ∃ Bx, w.heap.size + 1 < Bx ∧ W.heap[Bx]? = some (.cells (cellsE x.1) 33 (0, 0)) ∧ a' = { tmps := #[.agg #[.slice A l.length c], .pointer (some ⟨w.heap.size, 0, none⟩), .pointer (some ⟨w.heap.size + 1, 0, none⟩), .pointer (some ⟨Bx, 0, none⟩), .agg #[.slice A l.length c], .func (.func 78) #[] #[.pointer (some ⟨w.heap.size + 1 + 1, 0, none⟩)], .agg (cellsE x.1), undef, undef, undef, undef, undef, undef, undef, undef, undef, undef, undef], defers := [] })
  (fun x a' _ X Y row hs hg hr => by obtain ⟨Bx, h1, h2, h3⟩ := hs; exact ⟨Bx, h1, blk_own Bx (fun (_ : Unit) => cellsE x.1) 33 () X Y row h2 hg (fun r e => (hr r e).2), h3⟩)
  ?assign ?body ?done ?stop
 case assign =>
  rintro lp pre x W K ⟨⟨hp, bS0, bS1⟩, hB1⟩ hK
  unfold cellsE at hK ⊢
  gi_wp2
  exact hK _ _ ((KeepsOthers.alloc _ _).from _) ((Below.refl _ W).alloc hB1.size _) ⟨⟨hp, bS0.alloc _, bS1.alloc _⟩, hB1.alloc hB1.size _⟩ ⟨W.heap.size, bS1.lt, heap_alloc_new W _, rfl⟩
 case body =>
  rintro lp pre x a' W hl ⟨r, hr⟩ ⟨⟨hp, bS0, bS1⟩, hB⟩ ⟨Bx, hBx, bX, rfl⟩ hlt
  have x0 := blk_cell bX 0
  simp only [cellsE, List.getElem?_toArray, List.getElem?_cons_zero] at x0
  have hc1 := bS1.cell
  have hf1 := bS1.frozen
  have HB := Aside0.mk hB
  by_cases h1 : x.1.1.f0 = 1
  ·
   have hb1 : (x.1.1.f0 != 1) = false := by simp [h1]
   have HN : Aside0 (AllOk (pre ++ [x])) := ⟨fun y hy => by
    rcases List.mem_append.1 hy with hy | hy
    ·
     exact hp.out y hy
    ·
     obtain rfl := List.mem_singleton.1 hy
     simp [okC, h1]⟩
   clear h1
   gi_wp2
   exact ⟨KeepsFrom.refl _ _, Below.refl _ _, ⟨HN, bS0, bS1⟩, hB⟩
  ·
   have hb1 : (x.1.1.f0 != 1) = true := by simp [h1]
   by_cases h2 : x.1.1.f0 = 2
   ·
    have hb2 : (x.1.1.f0 != 2) = false := by simp [h2]
    have HN : Aside0 (AllOk (pre ++ [x])) := ⟨fun y hy => by
     rcases List.mem_append.1 hy with hy | hy
     ·
      exact hp.out y hy
     ·
      obtain rfl := List.mem_singleton.1 hy
      simp [okC, h2]⟩
    clear h1 h2
    gi_wp2
    exact ⟨KeepsFrom.refl _ _, Below.refl _ _, ⟨HN, bS0, bS1⟩, hB⟩
   ·
    have hb2 : (x.1.1.f0 != 2) = true := by simp [h2]
    have HN : Aside0 (SomeNot (pre ++ [x])) := ⟨⟨x, by simp, by simp [okC, h1, h2]⟩⟩
    clear h1 h2
    gi_wp2
    exact ⟨(KeepsOthers.setCell _ _ _).from _, ⟨rfl, HN, World.cell?_setCell_same' _ _ _ (by rw [hc1]; rfl)⟩, HB.out.setCell (p := ⟨w.heap.size + 1, 0, none⟩) (by simp) _⟩
 case done =>
  rintro D ys W hD hys ⟨⟨hp, bS0, bS1⟩, hB⟩ hK
  have HYS := Aside0.mk hys
  clear hys
  have hc0 := bS0.cell
  gi_wp2_with (refine ⟨trivial, ?_⟩; gi_at_call 11; refine (callsIn_wide.2 (tree_May.calls A c l me W (Kd.C_below HR.out hB) hc (GL_below HG.out hB) HME.out)).mono ?_; rintro e w3 ⟨rfl, hb3⟩; have hc3 := pw_cell_below hb3 bS1.cell; have hf3 := (hb3.frozen (p := ⟨w.heap.size + 1, 0, none⟩) bS1.lt).trans bS1.frozen; have HK3 := Aside0.mk ((hb3.block D (blk_lt hK)).trans hK); have HB3 := Aside0.mk (below_step hB hb3); clear hb3)
  have hK' := (KeepsOthers.setCell w3 ⟨w.heap.size + 1, 0, none⟩ (.bool (me == 0))).same D _ HK3.out rfl
  refine ⟨by simp, .inl ⟨_, _, rfl, run_takeDeferred hK', ?_⟩⟩
  have hc5 := cell_kept (World.cell?_setCell_same' w3 ⟨w.heap.size + 1, 0, none⟩ (.bool (me == 0)) (by rw [hc3]; rfl)) (grownBy_putObj' _ D (.deferred none)) (fun r e => by cases e; exact ⟨_, hK', rfl⟩)
  refine ⟨.bool (me == 0), by simp [results, Tryd.f15, go_sem, hc5], ?_, (HB3.out.setCell (p := ⟨w.heap.size + 1, 0, none⟩) (by simp) _).trans (belowK_b (w := w) (Nat.le_refl _) _ D _ _ (by omega) hK' rfl rfl)⟩
  rw [clean_done HL0.out HME.out HYS.out hp.out]
 case stop =>
  rintro D cd pre W hD hpre ⟨⟨rfl, hin, hcr⟩, hB⟩ hK
  have HPRE := Aside0.mk hpre
  clear hpre
  gi_wp2
  refine ⟨by simp, .inl ⟨_, _, rfl, run_takeDeferred hK, ?_⟩⟩
  have hc5 := cell_kept hcr (grownBy_putObj' _ D (.deferred none)) (fun r e => by cases e; exact ⟨_, hK, rfl⟩)
  refine ⟨.bool false, by simp [results, Tryd.f15, go_sem, hc5], ?_, hB.trans (belowK_b (w := w) (Nat.le_refl _) W D _ _ (by omega) hK rfl rfl)⟩
  rw [← clean_stop HPRE.out hin.out]
def tree_Word.f (l0_0 : List S33) : Option (List Int) := some (wordL (if mayB l0_0 = true then l0_0 else []))
theorem tree_Word.calls (A0_0 : Option Addr) (c0_0 : Nat) (l0_0 : List S33) (r : List Int) (w : World) (hr0_0 : Kd.C k33 w A0_0 l0_0.length l0_0) (hc0_0 : l0_0.length ≤ c0_0) (hG : GL w) (h : tree_Word.f l0_0 = some r) :
  Calls Tryd.prog 13 #[.agg #[.slice A0_0 l0_0.length c0_0]] w fun e w' => ∃ v0_ : Value, e = .returned (v0_) ∧ Kd.R (Kd.int .i64) 3 w' w.heap.size (fun _ => True) v0_ r ∧ Below w.heap.size w w' := by
 obtain rfl := Option.some.inj h
 refine (word_any l0_0 A0_0 c0_0 w hr0_0 hc0_0 hG).mono ?_
 rintro e w' ⟨v, he, ho, hb⟩
 exact ⟨v, he, Kd.R_of_own (enc := Value.int .i64) (by rw [show encs (Value.int .i64) (wordL (if mayB l0_0 = true then l0_0 else [])) = (wordL (if mayB l0_0 = true then l0_0 else [])).map (Value.int .i64) from rfl]; exact ho) (fun _ _ => trivial), hb⟩
instance (x : S33) : Decidable (SpanOk x) := by unfold SpanOk; infer_instance
def tree_Places.f (l0_0 : List S33) : Option (List Int) := if mayB l0_0 = true → ∀ x ∈ l0_0, SpanOk x then some (placesL (if mayB l0_0 = true then l0_0 else [])) else none
theorem tree_Places.calls (A0_0 : Option Addr) (c0_0 : Nat) (l0_0 : List S33) (r : List Int) (w : World) (hr0_0 : Kd.C k33 w A0_0 l0_0.length l0_0) (hc0_0 : l0_0.length ≤ c0_0) (hG : GL w) (h : tree_Places.f l0_0 = some r) :
  Calls Tryd.prog 14 #[.agg #[.slice A0_0 l0_0.length c0_0]] w fun e w' => ∃ v0_ : Value, e = .returned (v0_) ∧ Kd.R (Kd.int .i64) 3 w' w.heap.size (fun _ => True) v0_ r ∧ Below w.heap.size w w' := by
 unfold tree_Places.f at h
 split at h
 ·
  rename_i hP
  obtain rfl := Option.some.inj h
  refine (places_any l0_0 A0_0 c0_0 w hr0_0 hc0_0 hG hP).mono ?_
  rintro e w' ⟨v, he, ho, hb⟩
  exact ⟨v, he, Kd.R_of_own (enc := Value.int .i64) (by rw [show encs (Value.int .i64) (placesL (if mayB l0_0 = true then l0_0 else [])) = (placesL (if mayB l0_0 = true then l0_0 else [])).map (Value.int .i64) from rfl]; exact ho) (fun _ _ => trivial), hb⟩
 ·
  cases h
def tree_Clean.f (l0_0 : List S33) : Option Bool := some (cleanB l0_0)
theorem tree_Clean.calls (A0_0 : Option Addr) (c0_0 : Nat) (l0_0 : List S33) (r : Bool) (w : World) (hr0_0 : Kd.C k33 w A0_0 l0_0.length l0_0) (hc0_0 : l0_0.length ≤ c0_0) (hG : GL w) (h : tree_Clean.f l0_0 = some r) :
  Calls Tryd.prog 15 #[.agg #[.slice A0_0 l0_0.length c0_0]] w fun e w' => e = .returned (.bool r) ∧ Below w.heap.size w w' := by
 obtain rfl := Option.some.inj h
 exact clean_any l0_0 A0_0 c0_0 w hr0_0 hc0_0 hG
end Go.Proofs.YtafbmlhgcmlmpaaDoor.PT
