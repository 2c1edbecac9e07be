-- Written by this session's turned printer (wip/tools/oprint.py, op.sh), out of the translation. Lean checks it.
import Derived.Test.YtafbmlhgcmlmpaaDoorPTx0
namespace Go.Proofs.YtafbmlhgcmlmpaaDoor.PT
open Go.RowKit Go.Proofs.YtafbmlhgcmlmpaaDoorW.PrintWords Go.Proofs.YtafbmlhgcmlmpaaDoorW.PrintLast Go.Proofs.YtafbmlhgcmlmpaaDoorW.PrintMore
attribute [local go_sem] max2_int min2_int max_two min_two max_three min_three max_four min_four   -- for this text's walks alone
set_option linter.unusedVariables false
set_option linter.unusedSimpArgs false

/-! ### gramaryeref22_Places: function 20 -/
mutual
def gramaryeref22_Places.l0 : Nat → Int → List Int → Int → List (S33) → Option (List Int)
  | 0, _, _, _, _ => none
  | k + 1, x1, x5, x6, x163000 => if x6 < (x163000.length : Int) then (if 0 ≤ x6 then (if ((rd_T33 x163000 x6).f0) = 2 then (gramaryeref22_Places.j1 k x1 x5 x6 false x163000 ((rd_T33 x163000 x6).f0) ((rd_T33 x163000 x6).f1) ((rd_T33 x163000 x6).f2) ((rd_T33 x163000 x6).f3) ((rd_T33 x163000 x6).f4) ((rd_T33 x163000 x6).f5)) else (gramaryeref22_Places.j1 k x1 x5 x6 (((rd_T33 x163000 x6).f0) != 3) x163000 ((rd_T33 x163000 x6).f0) ((rd_T33 x163000 x6).f1) ((rd_T33 x163000 x6).f2) ((rd_T33 x163000 x6).f3) ((rd_T33 x163000 x6).f4) ((rd_T33 x163000 x6).f5))) else (none)) else (some x5)
def gramaryeref22_Places.j1 : Nat → Int → List Int → Int → Bool → List (S33) → Int → Int → Int → Int → ByteArray → List Int → Option (List Int)
  | 0, _, _, _, _, _, _, _, _, _, _, _ => none
  | k + 1, x1, x5, x6, x29, x163000, x168000, x168001, x168002, x168003, x168004, x168005 => if x29 = true then (gramaryeref22_Places.l0 k x1 x5 (wrap64 (x6 + 1)) x163000) else (gramaryeref22_Places.l1 k x1 x5 x6 x168002 x163000 x168000 x168001 x168002 x168003 x168004 x168005)
def gramaryeref22_Places.l1 : Nat → Int → List Int → Int → Int → List (S33) → Int → Int → Int → Int → ByteArray → List Int → Option (List Int)
  | 0, _, _, _, _, _, _, _, _, _, _, _ => none
  | k + 1, x1, x5, x6, x8, x163000, x168000, x168001, x168002, x168003, x168004, x168005 => if x8 < x168003 then (if (x5.length : Int) < x1 then (if x5.length < 17592186044416 then (gramaryeref22_Places.l1 k x1 (x5 ++ [x8]) x6 (wrap64 (x8 + 1)) x163000 x168000 x168001 x168002 x168003 x168004 x168005) else (none)) else (gramaryeref22_Places.l0 k x1 x5 (wrap64 (x6 + 1)) x163000)) else (gramaryeref22_Places.l0 k x1 x5 (wrap64 (x6 + 1)) x163000)
end
def gramaryeref22_Places.f (k : Nat) (l0_0 : List (S33)) (a1 : Int) : Option (List Int) := gramaryeref22_Places.l0 k a1 (([] : List Int)) 0 l0_0
theorem gramaryeref22_Places.mono_l : ∀ k, (∀ y0 y1 y2 y3, LeO (gramaryeref22_Places.l0 k y0 y1 y2 y3) (gramaryeref22_Places.l0 (k + 1) y0 y1 y2 y3)) ∧ (∀ y0 y1 y2 y3 y4 y5 y6 y7 y8 y9 y10, LeO (gramaryeref22_Places.j1 k y0 y1 y2 y3 y4 y5 y6 y7 y8 y9 y10) (gramaryeref22_Places.j1 (k + 1) y0 y1 y2 y3 y4 y5 y6 y7 y8 y9 y10)) ∧ (∀ y0 y1 y2 y3 y4 y5 y6 y7 y8 y9 y10, LeO (gramaryeref22_Places.l1 k y0 y1 y2 y3 y4 y5 y6 y7 y8 y9 y10) (gramaryeref22_Places.l1 (k + 1) y0 y1 y2 y3 y4 y5 y6 y7 y8 y9 y10))
  | 0 => ⟨fun _ _ _ _ r h => by simp [gramaryeref22_Places.l0] at h, fun _ _ _ _ _ _ _ _ _ _ _ r h => by simp [gramaryeref22_Places.j1] at h, fun _ _ _ _ _ _ _ _ _ _ _ r h => by simp [gramaryeref22_Places.l1] at h⟩
  | k + 1 => by
    obtain ⟨ih0, ih1, ih2⟩ := gramaryeref22_Places.mono_l k
    refine ⟨?_, ?_, ?_⟩
    · intro y0 y1 y2 y3
      unfold gramaryeref22_Places.l0
      repeat' first
      | (with_reducible exact ih0 _ _ _ _)
      | (with_reducible exact ih1 _ _ _ _ _ _ _ _ _ _ _)
      | (with_reducible exact ih2 _ _ _ _ _ _ _ _ _ _ _)
      | (with_reducible exact LeO.refl _)
      | (with_reducible exact LeO.none _)
      | (with_reducible refine LeO.ite ?_ ?_)
      | (with_reducible refine LeO.bind ?_ (fun _ => ?_))
      | exact ih0 _ _ _ _
      | exact ih1 _ _ _ _ _ _ _ _ _ _ _
      | exact ih2 _ _ _ _ _ _ _ _ _ _ _
      | exact LeO.none _
      | refine LeO.ite ?_ ?_
      | refine LeO.bind ?_ (fun _ => ?_)
    · intro y0 y1 y2 y3 y4 y5 y6 y7 y8 y9 y10
      unfold gramaryeref22_Places.j1
      repeat' first
      | (with_reducible exact ih0 _ _ _ _)
      | (with_reducible exact ih1 _ _ _ _ _ _ _ _ _ _ _)
      | (with_reducible exact ih2 _ _ _ _ _ _ _ _ _ _ _)
      | (with_reducible exact LeO.refl _)
      | (with_reducible exact LeO.none _)
      | (with_reducible refine LeO.ite ?_ ?_)
      | (with_reducible refine LeO.bind ?_ (fun _ => ?_))
      | exact ih0 _ _ _ _
      | exact ih1 _ _ _ _ _ _ _ _ _ _ _
      | exact ih2 _ _ _ _ _ _ _ _ _ _ _
      | exact LeO.none _
      | refine LeO.ite ?_ ?_
      | refine LeO.bind ?_ (fun _ => ?_)
    · intro y0 y1 y2 y3 y4 y5 y6 y7 y8 y9 y10
      unfold gramaryeref22_Places.l1
      repeat' first
      | (with_reducible exact ih0 _ _ _ _)
      | (with_reducible exact ih1 _ _ _ _ _ _ _ _ _ _ _)
      | (with_reducible exact ih2 _ _ _ _ _ _ _ _ _ _ _)
      | (with_reducible exact LeO.refl _)
      | (with_reducible exact LeO.none _)
      | (with_reducible refine LeO.ite ?_ ?_)
      | (with_reducible refine LeO.bind ?_ (fun _ => ?_))
      | exact ih0 _ _ _ _
      | exact ih1 _ _ _ _ _ _ _ _ _ _ _
      | exact ih2 _ _ _ _ _ _ _ _ _ _ _
      | exact LeO.none _
      | refine LeO.ite ?_ ?_
      | refine LeO.bind ?_ (fun _ => ?_)
theorem gramaryeref22_Places.mono : ∀ a0 a1 k, LeO (gramaryeref22_Places.f k a0 a1) (gramaryeref22_Places.f (k + 1) a0 a1) := by
  intro a0 a1 k
  obtain ⟨ih0, ih1, ih2⟩ := gramaryeref22_Places.mono_l k
  unfold gramaryeref22_Places.f
  repeat' first
      | (with_reducible exact ih0 _ _ _ _)
      | (with_reducible exact ih1 _ _ _ _ _ _ _ _ _ _ _)
      | (with_reducible exact ih2 _ _ _ _ _ _ _ _ _ _ _)
      | (with_reducible exact LeO.refl _)
      | (with_reducible exact LeO.none _)
      | (with_reducible refine LeO.ite ?_ ?_)
      | (with_reducible refine LeO.bind ?_ (fun _ => ?_))
      | exact ih0 _ _ _ _
      | exact ih1 _ _ _ _ _ _ _ _ _ _ _
      | exact ih2 _ _ _ _ _ _ _ _ _ _ _
      | exact LeO.none _
      | refine LeO.ite ?_ ?_
      | refine LeO.bind ?_ (fun _ => ?_)
set_option maxHeartbeats 8000000 in
set_option maxRecDepth 100000 in
theorem gramaryeref22_Places.calls (k : Nat) (A0_0 : Option Addr) (c0_0 : Nat) (l0_0 : List (S33)) (a1 : Int) (r : List Int) (w : World) (hr0_0 : Kd.C k33 w A0_0 l0_0.length l0_0) (hc0_0 : l0_0.length ≤ c0_0) (h : gramaryeref22_Places.f k l0_0 a1 = some r) :
    Calls Tryd.prog 20 #[.agg #[.slice A0_0 l0_0.length c0_0], .int .i64 a1] w fun e w' => ∃ v0_ : Value, e = .returned (v0_) ∧ Kd.R (Kd.int .i64) 3 w' w.heap.size (fun _ => True) v0_ r ∧ Below w.heap.size w w' := by
  have hu24 := Tryd.underlying24
  have hu33 := Tryd.underlying33
  have HR0_0 := Aside0.mk hr0_0
  have HC0_0 := Aside0.mk hc0_0
  clear hr0_0 hc0_0
  have HB := Aside0.mk (Below.refl w.heap.size w)
  have H : (gramaryeref22_Places.l0 k a1 (([] : List Int)) 0 l0_0) = some r := h
  clear h
  obtain ⟨y163, hy163⟩ : ∃ y_ : List Int, y_ = (([] : List Int)) := ⟨_, rfl⟩
  replace H : (gramaryeref22_Places.l0 k a1 y163 0 l0_0) = some r := by first | (rw [hy163]; with_reducible exact H) | (have H2_ := (Option.bind_some _ _).symm.trans H; rw [hy163]; with_reducible exact H2_) | (have H2_ := (Option.bind_some _ _).symm.trans H; with_reducible exact H2_) | with_reducible exact H | (rw [hy163]; exact H) | exact H
  have Ny163 := Aside0.mk hy163
  clear hy163
  have H' := Aside0.mk H
  clear H
  go_enter Tryd.func20, Tryd.ntmps20
  go_wp2_with (first | ((with_reducible refine gate_dst (N := 2) rfl ?_); (try (refine gate_guard (by rfl) ?_; dsimp only)); refine box_event ?hg (N := 2) ?hd (cs := #[.slice A0_0 l0_0.length c0_0]) (t := 24) ?hr ?_; (case hd => rfl); (case hg => rfl); (case hr => first | (go_simp; done) | (go_simp; rfl)); intro gb162 hg w3 hbox hb; have n0_ := Aside0.mk (below_step (by repeat (first | (with_reducible first | exact HB.out | apply below_alloc | apply pw_below_drewN | apply below_drew1) | exact HB.out)) hb); have n1_ := Aside0.mk (hbox); have n2_ := Aside0.mk ((by rw [hg]; exact (below_size (by repeat (first | (with_reducible first | exact HB.out | apply below_alloc | apply pw_below_drewN | apply below_drew1) | exact HB.out))) : w.heap.size ≤ gb162)); have n3_ := Aside0.mk ((by rw [hg]; exact (below_size (by repeat (first | (with_reducible first | exact HB.out | apply below_alloc | apply pw_below_drewN | apply below_drew1) | exact HB.out))) : w.heap.size ≤ gb162)); clear HB; have HB := n0_; have BK162 := n1_; have GW162 := n2_; have GE162 := n3_; clear n0_ n1_ n2_ n3_; clear hb hbox hg) | ((with_reducible refine gate_dst (N := 9) rfl ?_); (try (refine gate_guard (by rfl) ?_; dsimp only)); refine Kd.R_lit (Kd.int .i64) _ 3 ?hg (N := 9) ?hd (xs := ([] : List Int)) (inner := []) (ok := fun _ => True) (okp := fun _ => True) ?hr ?hp (fun _ hk => hk) trivial (Below.refl _ _) (Nat.le_refl _) (by simp) ?_; (case hd => rfl); (case hg => rfl); (case hr => first | (go_simp; done) | (go_simp; rfl)); (case hp => exact (Reps.none _ _)); intro v164 w4 ho5 hb hg_ hnew_; clear hg_ hnew_; (first | rw [← Ny163.out] at ho5 | (simp only [Int.reduceToNat] at ho5; rw [← Ny163.out] at ho5)); have n0_ := Aside0.mk (Kd.R_lower ho5 (below_size (by repeat (first | (with_reducible first | exact HB.out | apply below_alloc | apply pw_below_drewN | apply below_drew1 | refine below_set ?_ GE162.out) | exact HB.out)))); have n1_ := Aside0.mk (blk_below (g := gb162) (o := .cells #[.slice A0_0 l0_0.length c0_0] 24 (0, 0)) (by (with_reducible repeat (first | refine blk_drewN ?_ _ | refine blk_drew ?_ | refine blk_alloc ?_ _)); exact BK162.out) hb); have n2_ := Aside0.mk (below_step (by repeat (first | (with_reducible first | exact HB.out | apply below_alloc | apply pw_below_drewN | apply below_drew1 | refine below_set ?_ GE162.out) | exact HB.out)) hb); clear BK162; clear HB; have HO165 := n0_; have BK162 := n1_; have HB := n2_; clear n0_ n1_ n2_; clear hb ho5))
  go_loopg [5, 6] k (fun kq v5 v6 w' => ∃ (x5_1 : List Int) (x6_1 : Int), v6 = .int .i64 x6_1 ∧ Aside0 (gramaryeref22_Places.l0 kq a1 x5_1 x6_1 l0_0 = some r) ∧ Aside0 (kq ≤ k) ∧ Aside0 (Kd.R (Kd.int .i64) 3 w' w.heap.size (fun _ => True) v5 x5_1) ∧ Aside0 (w'.heap[gb162]? = some (.cells #[(.slice A0_0 l0_0.length c0_0)] 24 (0, 0))) ∧ Aside0 (Below w.heap.size w w'))
  case atStart => exact ⟨(y163), (0), (by first | rfl | (simp; done) | (simp [*]; done)), H', ⟨Nat.le_refl _⟩, ⟨by (with_reducible repeat (first | apply Kd.R_alloc | apply Kd.R_drewN | apply Kd.R_drew)); exact HO165.out⟩, ⟨by (with_reducible repeat (first | refine blk_drewN ?_ _ | refine blk_drew ?_ | refine blk_alloc ?_ _)); exact BK162.out⟩, ⟨by repeat (first | (with_reducible first | exact HB.out | apply below_alloc | apply pw_below_drewN | apply below_drew1 | refine below_set ?_ GE162.out) | exact HB.out)⟩⟩
  case round =>
    clear H'
    try clear c2
    try clear p2
    obtain ⟨x5_1, x6_1, rfl, HA, HK1, HO_5, BK162, HB⟩ := hrel
    cases gk with
    | zero => exact absurd HA.out (by simp [gramaryeref22_Places.l0])
    | succ k1 =>
      have H := HA.out
      clear HA
      simp only [gramaryeref22_Places.l0] at H
      by_cases c6 : x6_1 < (l0_0.length : Int)
      · rw [if_pos c6] at H
        have c6b0 : decide (x6_1 < (l0_0.length : Int)) = true := decide_eq_true c6
        clear c6
        by_cases c7 : 0 ≤ x6_1
        · rw [if_pos c7] at H
          have c7b0 : decide (0 ≤ x6_1) = true := decide_eq_true c7
          clear c7
          have HC8 := Aside0.mk H
          clear H
          have hcz9_0 : wr.cell? ⟨gb162, 0, none⟩ = some (.slice A0_0 l0_0.length c0_0) := (blk_cell BK162.out 0).trans rfl
          have hfz9_0 := blk_frozen BK162.out 0
          have p166 : 0 ≤ (x6_1 : Int) := of_decide_eq_true (by first | (with_reducible assumption) | assumption)
          have q166 : x6_1 < (l0_0.length : Int) := of_decide_eq_true (by first | (with_reducible assumption) | assumption)
          obtain ⟨ad166, A166_5, c166_5, e166, hx166_0, hx166_1, hx166_2, hx166_3, hx166_4, hx166_5, hl166_5, hi166_5⟩ := at_T33 HR0_0.out x6_1 p166 q166
          cases e166
          replace hx166_0 := (HB.out.cell (World.block_lt_of_cell? w _ hx166_0)).trans hx166_0
          replace hx166_1 := (HB.out.cell (World.block_lt_of_cell? w _ hx166_1)).trans hx166_1
          replace hx166_2 := (HB.out.cell (World.block_lt_of_cell? w _ hx166_2)).trans hx166_2
          replace hx166_3 := (HB.out.cell (World.block_lt_of_cell? w _ hx166_3)).trans hx166_3
          replace hx166_4 := (HB.out.cell (World.block_lt_of_cell? w _ hx166_4)).trans hx166_4
          replace hx166_5 := (HB.out.cell (World.block_lt_of_cell? w _ hx166_5)).trans hx166_5
          have HR166_5 := Aside0.mk hi166_5
          have HC166_5 := Aside0.mk hl166_5
          clear hi166_5 hl166_5
          replace p166 := eq_true p166
          replace q166 := eq_true q166
          go_upto_region 6 with (first | ((with_reducible refine gate_dst (N := 7) rfl ?_); (try (refine gate_guard (by rfl) ?_; dsimp only)); refine box_event ?hg (N := 7) ?hd (cs := #[.int .i64 0, .int .i64 0, .int .i64 0, .int .i64 0, .string (⟨#[]⟩ : ByteArray), .slice none 0 0]) (t := 33) ?hr ?_; (case hd => rfl); (case hg => rfl); (case hr => first | (go_simp; done) | (go_simp; rfl)); intro gb167 hg w10 hbox hb; have n0_ := Aside0.mk (Kd.R_below (by (with_reducible repeat (first | apply Kd.R_alloc | apply Kd.R_drewN | apply Kd.R_drew)); exact HO_5.out) hb); have n1_ := Aside0.mk (blk_below (g := gb162) (o := .cells #[.slice (some ad166) l0_0.length c0_0] 24 (0, 0)) (by (with_reducible repeat (first | refine blk_drewN ?_ _ | refine blk_drew ?_ | refine blk_alloc ?_ _)); exact BK162.out) hb); have n2_ := Aside0.mk (below_step (by repeat (first | (with_reducible first | exact HB.out | apply below_alloc | apply pw_below_drewN | apply below_drew1 | refine below_set ?_ GE162.out) | exact HB.out)) hb); have n3_ := Aside0.mk (hbox); have n4_ := Aside0.mk ((by rw [hg]; exact (below_size (by repeat (first | (with_reducible first | exact HB.out | apply below_alloc | apply pw_below_drewN | apply below_drew1 | refine below_set ?_ GE162.out) | exact HB.out))) : w.heap.size ≤ gb167)); have n5_ := Aside0.mk ((by rw [hg]; exact (below_size (by repeat (first | (with_reducible first | exact HB.out | apply below_alloc | apply pw_below_drewN | apply below_drew1 | refine below_set ?_ GE162.out) | exact HB.out))) : w.heap.size ≤ gb167)); have n6_ := Aside0.mk ((by rw [hg]; exact Nat.ne_of_lt (blk_lt (g := gb162) (o := .cells #[.slice (some ad166) l0_0.length c0_0] 24 (0, 0)) (by (with_reducible repeat (first | refine blk_drewN ?_ _ | refine blk_drew ?_ | refine blk_alloc ?_ _)); exact BK162.out)) : gb162 ≠ gb167)); have n7_ := Aside0.mk ((by rw [hg]; exact Nat.ne_of_gt (blk_lt (g := gb162) (o := .cells #[.slice (some ad166) l0_0.length c0_0] 24 (0, 0)) (by (with_reducible repeat (first | refine blk_drewN ?_ _ | refine blk_drew ?_ | refine blk_alloc ?_ _)); exact BK162.out)) : gb167 ≠ gb162)); clear HO_5; clear BK162; clear HB; have HO_5 := n0_; have BK162 := n1_; have HB := n2_; have BK167 := n3_; have GW167 := n4_; have GE167 := n5_; have NB162_167 := n6_; have NB167_162 := n7_; clear n0_ n1_ n2_ n3_ n4_ n5_ n6_ n7_; clear hb hbox hg; have hnb11 := NB167_162.out; have hnc11 := NB162_167.out; have hcz12_0 : w10.cell? ⟨gb167, 0, none⟩ = some (.int .i64 0) := (blk_cell BK167.out 0).trans rfl; have hcz12_1 : w10.cell? ⟨gb167, 1, none⟩ = some (.int .i64 0) := (blk_cell BK167.out 1).trans rfl; have hcz12_2 : w10.cell? ⟨gb167, 2, none⟩ = some (.int .i64 0) := (blk_cell BK167.out 2).trans rfl; have hcz12_3 : w10.cell? ⟨gb167, 3, none⟩ = some (.int .i64 0) := (blk_cell BK167.out 3).trans rfl; have hcz12_4 : w10.cell? ⟨gb167, 4, none⟩ = some (.string (⟨#[]⟩ : ByteArray)) := (blk_cell BK167.out 4).trans rfl; have hcz12_5 : w10.cell? ⟨gb167, 5, none⟩ = some (.slice none 0 0) := (blk_cell BK167.out 5).trans rfl; have hfz12_0 := blk_frozen BK167.out 0; have hfz12_1 := blk_frozen BK167.out 1; have hfz12_2 := blk_frozen BK167.out 2; have hfz12_3 := blk_frozen BK167.out 3; have hfz12_4 := blk_frozen BK167.out 4; have hfz12_5 := blk_frozen BK167.out 5))
          (try simp only [Act.put, List.setIfInBounds_toArray, List.set_cons_zero, List.set_cons_succ])
          go_cut [29] (fun v29 wc => ∃ (kq : Nat) (x29_7 : Bool), v29 = .bool x29_7 ∧ Aside0 (gramaryeref22_Places.j1 kq a1 x5_1 x6_1 x29_7 l0_0 ((rd_T33 l0_0 x6_1).f0) ((rd_T33 l0_0 x6_1).f1) ((rd_T33 l0_0 x6_1).f2) ((rd_T33 l0_0 x6_1).f3) ((rd_T33 l0_0 x6_1).f4) ((rd_T33 l0_0 x6_1).f5) = some r) ∧ Aside0 (kq ≤ k1) ∧ Aside0 (Kd.R (Kd.int .i64) 3 wc w.heap.size (fun _ => True) u5 x5_1) ∧ Aside0 (wc.heap[gb162]? = some (.cells #[(.slice (some ad166) l0_0.length c0_0)] 24 (0, 0))) ∧ Aside0 (wc.heap[gb167]? = some (.cells #[.int .i64 ((rd_T33 l0_0 x6_1).f0), .int .i64 ((rd_T33 l0_0 x6_1).f1), .int .i64 ((rd_T33 l0_0 x6_1).f2), .int .i64 ((rd_T33 l0_0 x6_1).f3), .string ((rd_T33 l0_0 x6_1).f4), (.slice A166_5 ((rd_T33 l0_0 x6_1).f5).length c166_5)] 33 (0, 0))) ∧ Aside0 (Below w.heap.size w wc))
          case first =>
            have H := HC8.out
            clear HC8
            by_cases c13 : ((rd_T33 l0_0 x6_1).f0) = 2
            · rw [if_pos c13] at H
              have c13b0 : (((rd_T33 l0_0 x6_1).f0) == 2) = true := beq_iff_eq.mpr c13
              have c13b1 : (((rd_T33 l0_0 x6_1).f0) != 2) = false := bne_eq_false_iff_eq.mpr c13
              clear c13
              (first | rw [c13b0] | (simp only [i64_w, i32_w]; rw [c13b0]) | skip)
              have H' := Aside0.mk H
              clear H
              have hnb14 := NB167_162.out
              have hnc14 := NB162_167.out
              have hcz15_0 : w10.cell? ⟨gb167, 0, none⟩ = some (.int .i64 0) := (blk_cell BK167.out 0).trans rfl
              have hcz15_1 : w10.cell? ⟨gb167, 1, none⟩ = some (.int .i64 0) := (blk_cell BK167.out 1).trans rfl
              have hcz15_2 : w10.cell? ⟨gb167, 2, none⟩ = some (.int .i64 0) := (blk_cell BK167.out 2).trans rfl
              have hcz15_3 : w10.cell? ⟨gb167, 3, none⟩ = some (.int .i64 0) := (blk_cell BK167.out 3).trans rfl
              have hcz15_4 : w10.cell? ⟨gb167, 4, none⟩ = some (.string (⟨#[]⟩ : ByteArray)) := (blk_cell BK167.out 4).trans rfl
              have hcz15_5 : w10.cell? ⟨gb167, 5, none⟩ = some (.slice none 0 0) := (blk_cell BK167.out 5).trans rfl
              have hfz15_0 := blk_frozen BK167.out 0
              have hfz15_1 := blk_frozen BK167.out 1
              have hfz15_2 := blk_frozen BK167.out 2
              have hfz15_3 := blk_frozen BK167.out 3
              have hfz15_4 := blk_frozen BK167.out 4
              have hfz15_5 := blk_frozen BK167.out 5
              go_wp2
              go_meet
              case rel => exact ⟨_, (false), (by first | rfl | (simp; done) | (simp [*]; done)), H', ⟨by have := HK1.out; first | omega | exact Nat.le_refl _⟩, ⟨by (with_reducible repeat (first | apply Kd.R_alloc | apply Kd.R_drewN | apply Kd.R_drew)); exact Kd.R_mono (Kd.R_far (p := ⟨gb167, 5, none⟩) (Kd.R_far (p := ⟨gb167, 4, none⟩) (Kd.R_far (p := ⟨gb167, 3, none⟩) (Kd.R_far (p := ⟨gb167, 2, none⟩) (Kd.R_far (p := ⟨gb167, 1, none⟩) (Kd.R_far (p := ⟨gb167, 0, none⟩) (Kd.R_types HO_5.out BK167.out (by decide)) (fun _ hk => hk.2) (.int .i64 ((rd_T33 l0_0 x6_1).f0))) (fun _ hk => hk.2) (.int .i64 ((rd_T33 l0_0 x6_1).f1))) (fun _ hk => hk.2) (.int .i64 ((rd_T33 l0_0 x6_1).f2))) (fun _ hk => hk.2) (.int .i64 ((rd_T33 l0_0 x6_1).f3))) (fun _ hk => hk.2) (.string ((rd_T33 l0_0 x6_1).f4))) (fun _ hk => hk.2) (.slice A166_5 ((rd_T33 l0_0 x6_1).f5).length c166_5)) (fun _ hk => trivial)⟩, ⟨by (with_reducible repeat (first | refine blk_drewN ?_ _ | refine blk_drew ?_ | refine blk_alloc ?_ _)); refine blk_far ?_ NB162_167.out _; (with_reducible repeat (first | refine blk_drewN ?_ _ | refine blk_drew ?_ | refine blk_alloc ?_ _)); refine blk_far ?_ NB162_167.out _; (with_reducible repeat (first | refine blk_drewN ?_ _ | refine blk_drew ?_ | refine blk_alloc ?_ _)); refine blk_far ?_ NB162_167.out _; (with_reducible repeat (first | refine blk_drewN ?_ _ | refine blk_drew ?_ | refine blk_alloc ?_ _)); refine blk_far ?_ NB162_167.out _; (with_reducible repeat (first | refine blk_drewN ?_ _ | refine blk_drew ?_ | refine blk_alloc ?_ _)); refine blk_far ?_ NB162_167.out _; (with_reducible repeat (first | refine blk_drewN ?_ _ | refine blk_drew ?_ | refine blk_alloc ?_ _)); refine blk_far ?_ NB162_167.out _; (with_reducible repeat (first | refine blk_drewN ?_ _ | refine blk_drew ?_ | refine blk_alloc ?_ _)); exact BK162.out⟩, ⟨by (with_reducible repeat (first | refine blk_drewN ?_ _ | refine blk_drew ?_ | refine blk_alloc ?_ _)); refine blk_put (cs := #[.int .i64 ((rd_T33 l0_0 x6_1).f0), .int .i64 ((rd_T33 l0_0 x6_1).f1), .int .i64 ((rd_T33 l0_0 x6_1).f2), .int .i64 ((rd_T33 l0_0 x6_1).f3), .string ((rd_T33 l0_0 x6_1).f4), .slice none 0 0]) ?_ 5 _ rfl; (with_reducible repeat (first | refine blk_drewN ?_ _ | refine blk_drew ?_ | refine blk_alloc ?_ _)); refine blk_put (cs := #[.int .i64 ((rd_T33 l0_0 x6_1).f0), .int .i64 ((rd_T33 l0_0 x6_1).f1), .int .i64 ((rd_T33 l0_0 x6_1).f2), .int .i64 ((rd_T33 l0_0 x6_1).f3), .string (⟨#[]⟩ : ByteArray), .slice none 0 0]) ?_ 4 _ rfl; (with_reducible repeat (first | refine blk_drewN ?_ _ | refine blk_drew ?_ | refine blk_alloc ?_ _)); refine blk_put (cs := #[.int .i64 ((rd_T33 l0_0 x6_1).f0), .int .i64 ((rd_T33 l0_0 x6_1).f1), .int .i64 ((rd_T33 l0_0 x6_1).f2), .int .i64 0, .string (⟨#[]⟩ : ByteArray), .slice none 0 0]) ?_ 3 _ rfl; (with_reducible repeat (first | refine blk_drewN ?_ _ | refine blk_drew ?_ | refine blk_alloc ?_ _)); refine blk_put (cs := #[.int .i64 ((rd_T33 l0_0 x6_1).f0), .int .i64 ((rd_T33 l0_0 x6_1).f1), .int .i64 0, .int .i64 0, .string (⟨#[]⟩ : ByteArray), .slice none 0 0]) ?_ 2 _ rfl; (with_reducible repeat (first | refine blk_drewN ?_ _ | refine blk_drew ?_ | refine blk_alloc ?_ _)); refine blk_put (cs := #[.int .i64 ((rd_T33 l0_0 x6_1).f0), .int .i64 0, .int .i64 0, .int .i64 0, .string (⟨#[]⟩ : ByteArray), .slice none 0 0]) ?_ 1 _ rfl; (with_reducible repeat (first | refine blk_drewN ?_ _ | refine blk_drew ?_ | refine blk_alloc ?_ _)); refine blk_put (cs := #[.int .i64 0, .int .i64 0, .int .i64 0, .int .i64 0, .string (⟨#[]⟩ : ByteArray), .slice none 0 0]) ?_ 0 _ rfl; (with_reducible repeat (first | refine blk_drewN ?_ _ | refine blk_drew ?_ | refine blk_alloc ?_ _)); exact BK167.out⟩, ⟨by repeat (first | (with_reducible first | exact HB.out | apply below_alloc | apply pw_below_drewN | apply below_drew1 | refine below_set ?_ GE162.out | refine below_set ?_ GE167.out) | exact HB.out)⟩⟩
            · rw [if_neg c13] at H
              have c13b0 : (((rd_T33 l0_0 x6_1).f0) == 2) = false := beq_eq_false_iff_ne.mpr c13
              have c13b1 : (((rd_T33 l0_0 x6_1).f0) != 2) = true := bne_iff_ne.mpr c13
              (first | rw [c13b0] | (simp only [i64_w, i32_w]; rw [c13b0]) | skip)
              have H' := Aside0.mk H
              clear H
              have hnb16 := NB167_162.out
              have hnc16 := NB162_167.out
              have hcz17_0 : w10.cell? ⟨gb167, 0, none⟩ = some (.int .i64 0) := (blk_cell BK167.out 0).trans rfl
              have hcz17_1 : w10.cell? ⟨gb167, 1, none⟩ = some (.int .i64 0) := (blk_cell BK167.out 1).trans rfl
              have hcz17_2 : w10.cell? ⟨gb167, 2, none⟩ = some (.int .i64 0) := (blk_cell BK167.out 2).trans rfl
              have hcz17_3 : w10.cell? ⟨gb167, 3, none⟩ = some (.int .i64 0) := (blk_cell BK167.out 3).trans rfl
              have hcz17_4 : w10.cell? ⟨gb167, 4, none⟩ = some (.string (⟨#[]⟩ : ByteArray)) := (blk_cell BK167.out 4).trans rfl
              have hcz17_5 : w10.cell? ⟨gb167, 5, none⟩ = some (.slice none 0 0) := (blk_cell BK167.out 5).trans rfl
              have hfz17_0 := blk_frozen BK167.out 0
              have hfz17_1 := blk_frozen BK167.out 1
              have hfz17_2 := blk_frozen BK167.out 2
              have hfz17_3 := blk_frozen BK167.out 3
              have hfz17_4 := blk_frozen BK167.out 4
              have hfz17_5 := blk_frozen BK167.out 5
              go_wp2
              go_meet
              case rel => exact ⟨_, ((((rd_T33 l0_0 x6_1).f0) != 3)), (by first | rfl | (simp; done) | (simp [*]; done)), H', ⟨by have := HK1.out; first | omega | exact Nat.le_refl _⟩, ⟨by (with_reducible repeat (first | apply Kd.R_alloc | apply Kd.R_drewN | apply Kd.R_drew)); exact Kd.R_mono (Kd.R_far (p := ⟨gb167, 5, none⟩) (Kd.R_far (p := ⟨gb167, 4, none⟩) (Kd.R_far (p := ⟨gb167, 3, none⟩) (Kd.R_far (p := ⟨gb167, 2, none⟩) (Kd.R_far (p := ⟨gb167, 1, none⟩) (Kd.R_far (p := ⟨gb167, 0, none⟩) (Kd.R_types HO_5.out BK167.out (by decide)) (fun _ hk => hk.2) (.int .i64 ((rd_T33 l0_0 x6_1).f0))) (fun _ hk => hk.2) (.int .i64 ((rd_T33 l0_0 x6_1).f1))) (fun _ hk => hk.2) (.int .i64 ((rd_T33 l0_0 x6_1).f2))) (fun _ hk => hk.2) (.int .i64 ((rd_T33 l0_0 x6_1).f3))) (fun _ hk => hk.2) (.string ((rd_T33 l0_0 x6_1).f4))) (fun _ hk => hk.2) (.slice A166_5 ((rd_T33 l0_0 x6_1).f5).length c166_5)) (fun _ hk => trivial)⟩, ⟨by (with_reducible repeat (first | refine blk_drewN ?_ _ | refine blk_drew ?_ | refine blk_alloc ?_ _)); refine blk_far ?_ NB162_167.out _; (with_reducible repeat (first | refine blk_drewN ?_ _ | refine blk_drew ?_ | refine blk_alloc ?_ _)); refine blk_far ?_ NB162_167.out _; (with_reducible repeat (first | refine blk_drewN ?_ _ | refine blk_drew ?_ | refine blk_alloc ?_ _)); refine blk_far ?_ NB162_167.out _; (with_reducible repeat (first | refine blk_drewN ?_ _ | refine blk_drew ?_ | refine blk_alloc ?_ _)); refine blk_far ?_ NB162_167.out _; (with_reducible repeat (first | refine blk_drewN ?_ _ | refine blk_drew ?_ | refine blk_alloc ?_ _)); refine blk_far ?_ NB162_167.out _; (with_reducible repeat (first | refine blk_drewN ?_ _ | refine blk_drew ?_ | refine blk_alloc ?_ _)); refine blk_far ?_ NB162_167.out _; (with_reducible repeat (first | refine blk_drewN ?_ _ | refine blk_drew ?_ | refine blk_alloc ?_ _)); exact BK162.out⟩, ⟨by (with_reducible repeat (first | refine blk_drewN ?_ _ | refine blk_drew ?_ | refine blk_alloc ?_ _)); refine blk_put (cs := #[.int .i64 ((rd_T33 l0_0 x6_1).f0), .int .i64 ((rd_T33 l0_0 x6_1).f1), .int .i64 ((rd_T33 l0_0 x6_1).f2), .int .i64 ((rd_T33 l0_0 x6_1).f3), .string ((rd_T33 l0_0 x6_1).f4), .slice none 0 0]) ?_ 5 _ rfl; (with_reducible repeat (first | refine blk_drewN ?_ _ | refine blk_drew ?_ | refine blk_alloc ?_ _)); refine blk_put (cs := #[.int .i64 ((rd_T33 l0_0 x6_1).f0), .int .i64 ((rd_T33 l0_0 x6_1).f1), .int .i64 ((rd_T33 l0_0 x6_1).f2), .int .i64 ((rd_T33 l0_0 x6_1).f3), .string (⟨#[]⟩ : ByteArray), .slice none 0 0]) ?_ 4 _ rfl; (with_reducible repeat (first | refine blk_drewN ?_ _ | refine blk_drew ?_ | refine blk_alloc ?_ _)); refine blk_put (cs := #[.int .i64 ((rd_T33 l0_0 x6_1).f0), .int .i64 ((rd_T33 l0_0 x6_1).f1), .int .i64 ((rd_T33 l0_0 x6_1).f2), .int .i64 0, .string (⟨#[]⟩ : ByteArray), .slice none 0 0]) ?_ 3 _ rfl; (with_reducible repeat (first | refine blk_drewN ?_ _ | refine blk_drew ?_ | refine blk_alloc ?_ _)); refine blk_put (cs := #[.int .i64 ((rd_T33 l0_0 x6_1).f0), .int .i64 ((rd_T33 l0_0 x6_1).f1), .int .i64 0, .int .i64 0, .string (⟨#[]⟩ : ByteArray), .slice none 0 0]) ?_ 2 _ rfl; (with_reducible repeat (first | refine blk_drewN ?_ _ | refine blk_drew ?_ | refine blk_alloc ?_ _)); refine blk_put (cs := #[.int .i64 ((rd_T33 l0_0 x6_1).f0), .int .i64 0, .int .i64 0, .int .i64 0, .string (⟨#[]⟩ : ByteArray), .slice none 0 0]) ?_ 1 _ rfl; (with_reducible repeat (first | refine blk_drewN ?_ _ | refine blk_drew ?_ | refine blk_alloc ?_ _)); refine blk_put (cs := #[.int .i64 0, .int .i64 0, .int .i64 0, .int .i64 0, .string (⟨#[]⟩ : ByteArray), .slice none 0 0]) ?_ 0 _ rfl; (with_reducible repeat (first | refine blk_drewN ?_ _ | refine blk_drew ?_ | refine blk_alloc ?_ _)); exact BK167.out⟩, ⟨by repeat (first | (with_reducible first | exact HB.out | apply below_alloc | apply pw_below_drewN | apply below_drew1 | refine below_set ?_ GE162.out | refine below_set ?_ GE167.out) | exact HB.out)⟩⟩
          case rest =>
            clear HC8
            try clear c1
            try clear p1
            try clear q1
            try clear hx1
            try clear c2
            try clear p2
            try clear c6
            try clear c6b0
            try clear c7
            try clear c7b0
            try clear c11
            try clear c13
            try clear c13b0
            try clear c13b1
            try clear c14
            try clear c16
            try clear p16
            try clear q16
            try clear hx16
            try clear hcz12_0
            try clear hcz12_1
            try clear hcz12_2
            try clear hcz12_3
            try clear hcz12_4
            try clear hcz12_5
            try clear hcz15_0
            try clear hcz15_1
            try clear hcz15_2
            try clear hcz15_3
            try clear hcz15_4
            try clear hcz15_5
            try clear hcz17_0
            try clear hcz17_1
            try clear hcz17_2
            try clear hcz17_3
            try clear hcz17_4
            try clear hcz17_5
            try clear hcz9_0
            try clear hfz12_0
            try clear hfz12_1
            try clear hfz12_2
            try clear hfz12_3
            try clear hfz12_4
            try clear hfz12_5
            try clear hfz15_0
            try clear hfz15_1
            try clear hfz15_2
            try clear hfz15_3
            try clear hfz15_4
            try clear hfz15_5
            try clear hfz17_0
            try clear hfz17_1
            try clear hfz17_2
            try clear hfz17_3
            try clear hfz17_4
            try clear hfz17_5
            try clear hfz9_0
            try clear hx166_0
            try clear hx166_1
            try clear hx166_2
            try clear hx166_3
            try clear hx166_4
            try clear hx166_5
            try clear p166
            try clear p2
            try clear q166
            obtain ⟨kq, x29_7, rfl, HA, HJ7, HO_5, BK162, BK167, HB⟩ := hcut
            cases kq with
            | zero => exact absurd HA.out (by simp [gramaryeref22_Places.j1])
            | succ kj7 =>
              have H := HA.out
              clear HA
              simp only [gramaryeref22_Places.j1] at H
              by_cases c18 : x29_7 = true
              · subst c18
                have H1 : (gramaryeref22_Places.l0 kj7 a1 x5_1 (wrap64 (x6_1 + 1)) l0_0) = some r := by rw [if_pos rfl] at H; exact H
                clear H
                have H := H1
                clear H1
                have H' := Aside0.mk H
                clear H
                go_wp2
                go_roundg kj7
                case measure => have := HK1.out; have := HJ7.out; omega
                case rel => exact ⟨(x5_1), (wrap64 (x6_1 + 1)), (by first | rfl | (simp; done) | (simp [*]; done)), H', ⟨by have := HK1.out; have := HJ7.out; omega⟩, ⟨by (with_reducible repeat (first | apply Kd.R_alloc | apply Kd.R_drewN | apply Kd.R_drew)); exact HO_5.out⟩, ⟨by (with_reducible repeat (first | refine blk_drewN ?_ _ | refine blk_drew ?_ | refine blk_alloc ?_ _)); exact BK162.out⟩, ⟨by repeat (first | (with_reducible first | exact HB.out | apply below_alloc | apply pw_below_drewN | apply below_drew1 | refine below_set ?_ GE162.out | refine below_set ?_ GE167.out) | exact HB.out)⟩⟩
              · replace c18 := Bool.eq_false_iff.mpr c18
                subst c18
                have H1 : (gramaryeref22_Places.l1 kj7 a1 x5_1 x6_1 ((rd_T33 l0_0 x6_1).f2) l0_0 ((rd_T33 l0_0 x6_1).f0) ((rd_T33 l0_0 x6_1).f1) ((rd_T33 l0_0 x6_1).f2) ((rd_T33 l0_0 x6_1).f3) ((rd_T33 l0_0 x6_1).f4) ((rd_T33 l0_0 x6_1).f5)) = some r := by rw [if_neg (show ¬ (false = true) by decide)] at H; exact H
                clear H
                have H := H1
                clear H1
                have H' := Aside0.mk H
                clear H
                have hnb19 := NB167_162.out
                have hnc19 := NB162_167.out
                have hcz20_0 : wc.cell? ⟨gb167, 0, none⟩ = some (.int .i64 ((rd_T33 l0_0 x6_1).f0)) := (blk_cell BK167.out 0).trans rfl
                have hcz20_1 : wc.cell? ⟨gb167, 1, none⟩ = some (.int .i64 ((rd_T33 l0_0 x6_1).f1)) := (blk_cell BK167.out 1).trans rfl
                have hcz20_2 : wc.cell? ⟨gb167, 2, none⟩ = some (.int .i64 ((rd_T33 l0_0 x6_1).f2)) := (blk_cell BK167.out 2).trans rfl
                have hcz20_3 : wc.cell? ⟨gb167, 3, none⟩ = some (.int .i64 ((rd_T33 l0_0 x6_1).f3)) := (blk_cell BK167.out 3).trans rfl
                have hcz20_4 : wc.cell? ⟨gb167, 4, none⟩ = some (.string ((rd_T33 l0_0 x6_1).f4)) := (blk_cell BK167.out 4).trans rfl
                have hcz20_5 : wc.cell? ⟨gb167, 5, none⟩ = some (.slice A166_5 ((rd_T33 l0_0 x6_1).f5).length c166_5) := (blk_cell BK167.out 5).trans rfl
                have hfz20_0 := blk_frozen BK167.out 0
                have hfz20_1 := blk_frozen BK167.out 1
                have hfz20_2 := blk_frozen BK167.out 2
                have hfz20_3 := blk_frozen BK167.out 3
                have hfz20_4 := blk_frozen BK167.out 4
                have hfz20_5 := blk_frozen BK167.out 5
                go_wp2
                go_loopg [5, 8] kj7 (fun kq v5 v8 w' => ∃ (x5_3 : List Int) (x8_3 : Int), v8 = .int .i64 x8_3 ∧ Aside0 (gramaryeref22_Places.l1 kq a1 x5_3 x6_1 x8_3 l0_0 ((rd_T33 l0_0 x6_1).f0) ((rd_T33 l0_0 x6_1).f1) ((rd_T33 l0_0 x6_1).f2) ((rd_T33 l0_0 x6_1).f3) ((rd_T33 l0_0 x6_1).f4) ((rd_T33 l0_0 x6_1).f5) = some r) ∧ Aside0 (kq ≤ kj7) ∧ Aside0 (Kd.R (Kd.int .i64) 3 w' w.heap.size (fun _ => True) v5 x5_3) ∧ Aside0 (w'.heap[gb162]? = some (.cells #[(.slice (some ad166) l0_0.length c0_0)] 24 (0, 0))) ∧ Aside0 (w'.heap[gb167]? = some (.cells #[.int .i64 ((rd_T33 l0_0 x6_1).f0), .int .i64 ((rd_T33 l0_0 x6_1).f1), .int .i64 ((rd_T33 l0_0 x6_1).f2), .int .i64 ((rd_T33 l0_0 x6_1).f3), .string ((rd_T33 l0_0 x6_1).f4), (.slice A166_5 ((rd_T33 l0_0 x6_1).f5).length c166_5)] 33 (0, 0))) ∧ Aside0 (Below w.heap.size w w'))
                case atStart => exact ⟨(x5_1), (((rd_T33 l0_0 x6_1).f2)), (by first | rfl | (simp; done) | (simp [*]; done)), H', ⟨Nat.le_refl _⟩, ⟨by (with_reducible repeat (first | apply Kd.R_alloc | apply Kd.R_drewN | apply Kd.R_drew)); exact HO_5.out⟩, ⟨by (with_reducible repeat (first | refine blk_drewN ?_ _ | refine blk_drew ?_ | refine blk_alloc ?_ _)); exact BK162.out⟩, ⟨by (with_reducible repeat (first | refine blk_drewN ?_ _ | refine blk_drew ?_ | refine blk_alloc ?_ _)); exact BK167.out⟩, ⟨by repeat (first | (with_reducible first | exact HB.out | apply below_alloc | apply pw_below_drewN | apply below_drew1 | refine below_set ?_ GE162.out | refine below_set ?_ GE167.out) | exact HB.out)⟩⟩
                case round =>
                  clear H'
                  try clear c1
                  try clear p1
                  try clear q1
                  try clear hx1
                  try clear c2
                  try clear p2
                  try clear c6
                  try clear c6b0
                  try clear p6
                  try clear c7
                  try clear c7b0
                  try clear c11
                  try clear c13
                  try clear c13b0
                  try clear c13b1
                  try clear c14
                  try clear c16
                  try clear p16
                  try clear q16
                  try clear hx16
                  try clear c18
                  try clear c19
                  try clear c20
                  try clear hcz12_0
                  try clear hcz12_1
                  try clear hcz12_2
                  try clear hcz12_3
                  try clear hcz12_4
                  try clear hcz12_5
                  try clear hcz15_0
                  try clear hcz15_1
                  try clear hcz15_2
                  try clear hcz15_3
                  try clear hcz15_4
                  try clear hcz15_5
                  try clear hcz17_0
                  try clear hcz17_1
                  try clear hcz17_2
                  try clear hcz17_3
                  try clear hcz17_4
                  try clear hcz17_5
                  try clear hcz20_0
                  try clear hcz20_1
                  try clear hcz20_2
                  try clear hcz20_3
                  try clear hcz20_4
                  try clear hcz20_5
                  try clear hcz9_0
                  try clear hfz12_0
                  try clear hfz12_1
                  try clear hfz12_2
                  try clear hfz12_3
                  try clear hfz12_4
                  try clear hfz12_5
                  try clear hfz15_0
                  try clear hfz15_1
                  try clear hfz15_2
                  try clear hfz15_3
                  try clear hfz15_4
                  try clear hfz15_5
                  try clear hfz17_0
                  try clear hfz17_1
                  try clear hfz17_2
                  try clear hfz17_3
                  try clear hfz17_4
                  try clear hfz17_5
                  try clear hfz20_0
                  try clear hfz20_1
                  try clear hfz20_2
                  try clear hfz20_3
                  try clear hfz20_4
                  try clear hfz20_5
                  try clear hfz9_0
                  try clear hx166_0
                  try clear hx166_1
                  try clear hx166_2
                  try clear hx166_3
                  try clear hx166_4
                  try clear hx166_5
                  try clear p1
                  try clear p16
                  try clear p166
                  try clear p2
                  try clear q1
                  try clear q16
                  try clear q166
                  obtain ⟨x5_3, x8_3, rfl, HA, HK3, HO_5, BK162, BK167, HB⟩ := hrel
                  cases gk with
                  | zero => exact absurd HA.out (by simp [gramaryeref22_Places.l1])
                  | succ k3 =>
                    have H := HA.out
                    clear HA
                    simp only [gramaryeref22_Places.l1] at H
                    by_cases c21 : x8_3 < ((rd_T33 l0_0 x6_1).f3)
                    · rw [if_pos c21] at H
                      have c21b0 : decide (x8_3 < ((rd_T33 l0_0 x6_1).f3)) = true := decide_eq_true c21
                      clear c21
                      by_cases c22 : (x5_3.length : Int) < a1
                      · rw [if_pos c22] at H
                        have c22b0 : decide ((x5_3.length : Int) < a1) = true := decide_eq_true c22
                        clear c22
                        by_cases c23 : x5_3.length < 17592186044416
                        · rw [if_pos c23] at H
                          have LMc23 := Aside0.mk c23
                          clear c23
                          obtain ⟨y168, hy168⟩ : ∃ y_ : List Int, y_ = (x5_3 ++ [x8_3]) := ⟨_, rfl⟩
                          replace H : (gramaryeref22_Places.l1 k3 a1 y168 x6_1 (wrap64 (x8_3 + 1)) l0_0 ((rd_T33 l0_0 x6_1).f0) ((rd_T33 l0_0 x6_1).f1) ((rd_T33 l0_0 x6_1).f2) ((rd_T33 l0_0 x6_1).f3) ((rd_T33 l0_0 x6_1).f4) ((rd_T33 l0_0 x6_1).f5)) = some r := by first | (rw [hy168]; with_reducible exact H) | (have H2_ := (Option.bind_some _ _).symm.trans H; rw [hy168]; with_reducible exact H2_) | (have H2_ := (Option.bind_some _ _).symm.trans H; with_reducible exact H2_) | with_reducible exact H | (rw [hy168]; exact H) | exact H
                          have Ny168 := Aside0.mk hy168
                          clear hy168
                          have H' := Aside0.mk H
                          clear H
                          have hnb24 := NB167_162.out
                          have hnc24 := NB162_167.out
                          have hcz25_0 : wr.cell? ⟨gb167, 0, none⟩ = some (.int .i64 ((rd_T33 l0_0 x6_1).f0)) := (blk_cell BK167.out 0).trans rfl
                          have hcz25_1 : wr.cell? ⟨gb167, 1, none⟩ = some (.int .i64 ((rd_T33 l0_0 x6_1).f1)) := (blk_cell BK167.out 1).trans rfl
                          have hcz25_2 : wr.cell? ⟨gb167, 2, none⟩ = some (.int .i64 ((rd_T33 l0_0 x6_1).f2)) := (blk_cell BK167.out 2).trans rfl
                          have hcz25_3 : wr.cell? ⟨gb167, 3, none⟩ = some (.int .i64 ((rd_T33 l0_0 x6_1).f3)) := (blk_cell BK167.out 3).trans rfl
                          have hcz25_4 : wr.cell? ⟨gb167, 4, none⟩ = some (.string ((rd_T33 l0_0 x6_1).f4)) := (blk_cell BK167.out 4).trans rfl
                          have hcz25_5 : wr.cell? ⟨gb167, 5, none⟩ = some (.slice A166_5 ((rd_T33 l0_0 x6_1).f5).length c166_5) := (blk_cell BK167.out 5).trans rfl
                          have hfz25_0 := blk_frozen BK167.out 0
                          have hfz25_1 := blk_frozen BK167.out 1
                          have hfz25_2 := blk_frozen BK167.out 2
                          have hfz25_3 := blk_frozen BK167.out 3
                          have hfz25_4 := blk_frozen BK167.out 4
                          have hfz25_5 := blk_frozen BK167.out 5
                          obtain ⟨Ao26, co26, eo26⟩ := Kd.R_slice HO_5.out
                          subst eo26
                          go_wp2_with (first | ((with_reducible refine gate_builtin (b := .append) (xs := #[.tmp 44, .tmp 46]) rfl ?_); (try (refine gate_guard (by rfl) ?_; dsimp only)); at_builtin; refine Kd.R_append (Kd.int .i64) (w0 := w) w.heap.size rfl (.tmp 44) (.tmp 46) 28 3 (.int .i64 0) 8 rfl Tryd.underlying28 info3 rfl (by decide) (by omega) (.slice Ao26 x5_3.length co26) x5_3 x8_3 [.int .i64 x8_3] (fun _ => True) (fun _ => False) rfl rfl ?aP (fun _ hk => hk.elim) ?aF ?aO ?aB ?aS ?aL ?_; (case aP => exact rfl); (case aB => exact (by repeat (first | (with_reducible first | exact HB.out | apply below_alloc | apply pw_below_drewN | apply below_drew1 | refine below_set ?_ GE162.out | refine below_set ?_ GE167.out) | exact HB.out))); (case aF => exact (fun _ _ => trivial)); (case aO => exact (by (with_reducible repeat (first | apply Kd.R_alloc | apply Kd.R_drewN | apply Kd.R_drew)); exact HO_5.out)); (case aS => exact (below_size (by repeat (first | (with_reducible first | exact HB.out | apply below_alloc | apply pw_below_drewN | apply below_drew1 | refine below_set ?_ GE162.out | refine below_set ?_ GE167.out) | exact HB.out)))); (case aL => have := LMc23.out; omega); intro v169 w27 ho hb hg hat; rw [← Ny168.out] at ho; have n0_ := Aside0.mk (blk_grown (g := gb162) (o := .cells #[.slice (some ad166) l0_0.length c0_0] 24 (0, 0)) (by (with_reducible repeat (first | refine blk_drewN ?_ _ | refine blk_drew ?_ | refine blk_alloc ?_ _)); exact BK162.out) hg (Kd.R_ne HO_5.out BK162.out (by decide))); have n1_ := Aside0.mk (blk_grown (g := gb167) (o := .cells #[.int .i64 ((rd_T33 l0_0 x6_1).f0), .int .i64 ((rd_T33 l0_0 x6_1).f1), .int .i64 ((rd_T33 l0_0 x6_1).f2), .int .i64 ((rd_T33 l0_0 x6_1).f3), .string ((rd_T33 l0_0 x6_1).f4), .slice A166_5 ((rd_T33 l0_0 x6_1).f5).length c166_5] 33 (0, 0)) (by (with_reducible repeat (first | refine blk_drewN ?_ _ | refine blk_drew ?_ | refine blk_alloc ?_ _)); exact BK167.out) hg (Kd.R_ne HO_5.out BK167.out (by decide))); have n2_ := Aside0.mk (hb); have n3_ := Aside0.mk (ho); clear BK162; clear BK167; clear HB; clear HO_5; have BK162 := n0_; have BK167 := n1_; have HB := n2_; have HO170 := n3_; clear n0_ n1_ n2_ n3_; clear ho hb hg hat))
                          go_roundg k3
                          case measure => have := HK1.out; have := HJ7.out; have := HK3.out; omega
                          case rel => exact ⟨(y168), (wrap64 (x8_3 + 1)), (by first | rfl | (simp; done) | (simp [*]; done)), H', ⟨by have := HK1.out; have := HJ7.out; have := HK3.out; omega⟩, ⟨by (with_reducible repeat (first | apply Kd.R_alloc | apply Kd.R_drewN | apply Kd.R_drew)); exact HO170.out⟩, ⟨by (with_reducible repeat (first | refine blk_drewN ?_ _ | refine blk_drew ?_ | refine blk_alloc ?_ _)); exact BK162.out⟩, ⟨by (with_reducible repeat (first | refine blk_drewN ?_ _ | refine blk_drew ?_ | refine blk_alloc ?_ _)); exact BK167.out⟩, ⟨by repeat (first | (with_reducible first | exact HB.out | apply below_alloc | apply pw_below_drewN | apply below_drew1 | refine below_set ?_ GE162.out | refine below_set ?_ GE167.out) | exact HB.out)⟩⟩
                        · rw [if_neg c23] at H
                          exact absurd H (by simp)
                      · rw [if_neg c22] at H
                        have c22b0 : decide ((x5_3.length : Int) < a1) = false := decide_eq_false c22
                        clear c22
                        have H' := Aside0.mk H
                        clear H
                        have hnb28 := NB167_162.out
                        have hnc28 := NB162_167.out
                        have hcz29_0 : wr.cell? ⟨gb167, 0, none⟩ = some (.int .i64 ((rd_T33 l0_0 x6_1).f0)) := (blk_cell BK167.out 0).trans rfl
                        have hcz29_1 : wr.cell? ⟨gb167, 1, none⟩ = some (.int .i64 ((rd_T33 l0_0 x6_1).f1)) := (blk_cell BK167.out 1).trans rfl
                        have hcz29_2 : wr.cell? ⟨gb167, 2, none⟩ = some (.int .i64 ((rd_T33 l0_0 x6_1).f2)) := (blk_cell BK167.out 2).trans rfl
                        have hcz29_3 : wr.cell? ⟨gb167, 3, none⟩ = some (.int .i64 ((rd_T33 l0_0 x6_1).f3)) := (blk_cell BK167.out 3).trans rfl
                        have hcz29_4 : wr.cell? ⟨gb167, 4, none⟩ = some (.string ((rd_T33 l0_0 x6_1).f4)) := (blk_cell BK167.out 4).trans rfl
                        have hcz29_5 : wr.cell? ⟨gb167, 5, none⟩ = some (.slice A166_5 ((rd_T33 l0_0 x6_1).f5).length c166_5) := (blk_cell BK167.out 5).trans rfl
                        have hfz29_0 := blk_frozen BK167.out 0
                        have hfz29_1 := blk_frozen BK167.out 1
                        have hfz29_2 := blk_frozen BK167.out 2
                        have hfz29_3 := blk_frozen BK167.out 3
                        have hfz29_4 := blk_frozen BK167.out 4
                        have hfz29_5 := blk_frozen BK167.out 5
                        obtain ⟨Ao30, co30, eo30⟩ := Kd.R_slice HO_5.out
                        subst eo30
                        go_wp2
                        go_roundg k3
                        case measure => have := HK1.out; have := HJ7.out; have := HK3.out; omega
                        case rel => exact ⟨(x5_3), (wrap64 (x6_1 + 1)), (by first | rfl | (simp; done) | (simp [*]; done)), H', ⟨by have := HK1.out; have := HJ7.out; have := HK3.out; omega⟩, ⟨by (with_reducible repeat (first | apply Kd.R_alloc | apply Kd.R_drewN | apply Kd.R_drew)); exact HO_5.out⟩, ⟨by (with_reducible repeat (first | refine blk_drewN ?_ _ | refine blk_drew ?_ | refine blk_alloc ?_ _)); exact BK162.out⟩, ⟨by repeat (first | (with_reducible first | exact HB.out | apply below_alloc | apply pw_below_drewN | apply below_drew1 | refine below_set ?_ GE162.out | refine below_set ?_ GE167.out) | exact HB.out)⟩⟩
                    · rw [if_neg c21] at H
                      have c21b0 : decide (x8_3 < ((rd_T33 l0_0 x6_1).f3)) = false := decide_eq_false c21
                      clear c21
                      have H' := Aside0.mk H
                      clear H
                      have hnb31 := NB167_162.out
                      have hnc31 := NB162_167.out
                      have hcz32_0 : wr.cell? ⟨gb167, 0, none⟩ = some (.int .i64 ((rd_T33 l0_0 x6_1).f0)) := (blk_cell BK167.out 0).trans rfl
                      have hcz32_1 : wr.cell? ⟨gb167, 1, none⟩ = some (.int .i64 ((rd_T33 l0_0 x6_1).f1)) := (blk_cell BK167.out 1).trans rfl
                      have hcz32_2 : wr.cell? ⟨gb167, 2, none⟩ = some (.int .i64 ((rd_T33 l0_0 x6_1).f2)) := (blk_cell BK167.out 2).trans rfl
                      have hcz32_3 : wr.cell? ⟨gb167, 3, none⟩ = some (.int .i64 ((rd_T33 l0_0 x6_1).f3)) := (blk_cell BK167.out 3).trans rfl
                      have hcz32_4 : wr.cell? ⟨gb167, 4, none⟩ = some (.string ((rd_T33 l0_0 x6_1).f4)) := (blk_cell BK167.out 4).trans rfl
                      have hcz32_5 : wr.cell? ⟨gb167, 5, none⟩ = some (.slice A166_5 ((rd_T33 l0_0 x6_1).f5).length c166_5) := (blk_cell BK167.out 5).trans rfl
                      have hfz32_0 := blk_frozen BK167.out 0
                      have hfz32_1 := blk_frozen BK167.out 1
                      have hfz32_2 := blk_frozen BK167.out 2
                      have hfz32_3 := blk_frozen BK167.out 3
                      have hfz32_4 := blk_frozen BK167.out 4
                      have hfz32_5 := blk_frozen BK167.out 5
                      go_wp2
                      go_roundg k3
                      case measure => have := HK1.out; have := HJ7.out; have := HK3.out; omega
                      case rel => exact ⟨(x5_3), (wrap64 (x6_1 + 1)), (by first | rfl | (simp; done) | (simp [*]; done)), H', ⟨by have := HK1.out; have := HJ7.out; have := HK3.out; omega⟩, ⟨by (with_reducible repeat (first | apply Kd.R_alloc | apply Kd.R_drewN | apply Kd.R_drew)); exact HO_5.out⟩, ⟨by (with_reducible repeat (first | refine blk_drewN ?_ _ | refine blk_drew ?_ | refine blk_alloc ?_ _)); exact BK162.out⟩, ⟨by repeat (first | (with_reducible first | exact HB.out | apply below_alloc | apply pw_below_drewN | apply below_drew1 | refine below_set ?_ GE162.out | refine below_set ?_ GE167.out) | exact HB.out)⟩⟩
        · rw [if_neg c7] at H
          exact absurd H (by simp)
      · rw [if_neg c6] at H
        have c6b0 : decide (x6_1 < (l0_0.length : Int)) = false := decide_eq_false c6
        clear c6
        obtain rfl := Option.some.inj H
        have hcz33_0 : wr.cell? ⟨gb162, 0, none⟩ = some (.slice A0_0 l0_0.length c0_0) := (blk_cell BK162.out 0).trans rfl
        have hfz33_0 := blk_frozen BK162.out 0
        go_wp2
        go_ret
        exact ⟨_, by first | rfl | (simp [errW_none, errW_some] <;> rfl) | (simp [*, errW_none, errW_some] <;> rfl), by (with_reducible repeat (first | apply Kd.R_alloc | apply Kd.R_drewN | apply Kd.R_drew)); exact HO_5.out, by repeat (first | (with_reducible first | exact HB.out | apply below_alloc | apply pw_below_drewN | apply below_drew1 | refine below_set ?_ GE162.out) | exact HB.out)⟩

end Go.Proofs.YtafbmlhgcmlmpaaDoor.PT
