-- Written by this session's turned printer (wip/tools/oprint.py, op.sh), out of the translation. Lean checks it.
import Derived.Test.YtafbmlhgcmlmpaaDoorPTx0
import Derived.Test.YtafbmlhgcmlmpaaDoorPTx3
namespace Go.Proofs.YtafbmlhgcmlmpaaDoor.PT
open Go.RowKit Go.Proofs.YtafbmlhgcmlmpaaDoorW.PrintWords Go.Proofs.YtafbmlhgcmlmpaaDoorW.PrintLast Go.Proofs.YtafbmlhgcmlmpaaDoorW.PrintMore
attribute [local go_sem] max2_int min2_int max_two min_two max_three min_three max_four min_four   -- for this text's walks alone
set_option linter.unusedVariables false
set_option linter.unusedSimpArgs false
mutual
def gramaryeref22_below.j0 : Nat → Int → Bool → List (S33) → Option (Int)
 | 0, _, _, _ => none
 | k + 1, x1, x27, x135000 => if x27 = true then (some (-1)) else (if 0 ≤ x1 then (if x1 < (x135000.length : Int) then (gramaryeref22_below.l0 k x1 (wrap64 (x1 + 1)) ((rd_T33 x135000 x1).f2) 0 x135000 ((rd_T33 x135000 x1).f0) ((rd_T33 x135000 x1).f1) ((rd_T33 x135000 x1).f2) ((rd_T33 x135000 x1).f3) ((rd_T33 x135000 x1).f4) ((rd_T33 x135000 x1).f5)) else (none)) else (none))
def gramaryeref22_below.l0 : Nat → Int → Int → Int → Int → List (S33) → Int → Int → Int → Int → ByteArray → List Int → Option (Int)
 | 0, _, _, _, _, _, _, _, _, _, _, _ => none
 | k + 1, x1, x6, x7, x8, x135000, x139000, x139001, x139002, x139003, x139004, x139005 => if x8 < (x139005.length : Int) then (if 0 ≤ x8 then (if (rd x139005 x8) = x6 then (if x6 ≥ (x135000.length : Int) then (gramaryeref22_below.j2 k x1 x6 x8 true x135000 x139000 x139001 x139002 x139003 x139004 x139005) else (if 0 ≤ x6 then (if x6 < (x135000.length : Int) then (gramaryeref22_below.j2 k x1 x6 x8 (((rd_T33 x135000 x6).f2) != x7) x135000 x139000 x139001 x139002 x139003 x139004 x139005) else (none)) else (none))) else (gramaryeref22_below.j2 k x1 x6 x8 true x135000 x139000 x139001 x139002 x139003 x139004 x139005)) else (none)) else (if x7 = x139003 then (some (wrap64 (x6 - x1))) else (if (x139005.length : Int) > 0 then (some (-1)) else (some (wrap64 (x6 - x1)))))
def gramaryeref22_below.j2 : Nat → Int → Int → Int → Bool → List (S33) → Int → Int → Int → Int → ByteArray → List Int → Option (Int)
 | 0, _, _, _, _, _, _, _, _, _, _, _ => none
 | k + 1, x1, x6, x8, x67, x135000, x139000, x139001, x139002, x139003, x139004, x139005 => if x67 = true then (some (-1)) else ((gramaryeref22_below.f k x135000 x6).bind fun t141 => (if t141 < 0 then (some (-1)) else (if 0 ≤ x6 then (if x6 < (x135000.length : Int) then (gramaryeref22_below.l0 k x1 (wrap64 (x6 + t141)) ((rd_T33 x135000 x6).f3) (wrap64 (x8 + 1)) x135000 x139000 x139001 x139002 x139003 x139004 x139005) else (none)) else (none))))
def gramaryeref22_below.f : Nat → List (S33) → Int → Option (Int)
 | 0, _, _ => none
 | k + 1, l0_0, a1 => if a1 < 0 then (gramaryeref22_below.j0 k a1 true l0_0) else (if a1 ≥ (l0_0.length : Int) then (gramaryeref22_below.j0 k a1 true l0_0) else (if 0 ≤ a1 then (if a1 < (l0_0.length : Int) then ((gramaryeref22_right.f k ((rd_T33 l0_0 a1).f0) ((rd_T33 l0_0 a1).f1) ((rd_T33 l0_0 a1).f2) ((rd_T33 l0_0 a1).f3) ((rd_T33 l0_0 a1).f4) ((rd_T33 l0_0 a1).f5)).bind fun t136 => (gramaryeref22_below.j0 k a1 (!t136) l0_0)) else (none)) else (none)))
end
theorem gramaryeref22_below.mono_l : ∀ k, (∀ y0 y1, LeO (gramaryeref22_below.f k y0 y1) (gramaryeref22_below.f (k + 1) y0 y1)) ∧ (∀ y0 y1 y2, LeO (gramaryeref22_below.j0 k y0 y1 y2) (gramaryeref22_below.j0 (k + 1) y0 y1 y2)) ∧ (∀ y0 y1 y2 y3 y4 y5 y6 y7 y8 y9 y10, LeO (gramaryeref22_below.l0 k y0 y1 y2 y3 y4 y5 y6 y7 y8 y9 y10) (gramaryeref22_below.l0 (k + 1) y0 y1 y2 y3 y4 y5 y6 y7 y8 y9 y10)) ∧ (∀ y0 y1 y2 y3 y4 y5 y6 y7 y8 y9 y10, LeO (gramaryeref22_below.j2 k y0 y1 y2 y3 y4 y5 y6 y7 y8 y9 y10) (gramaryeref22_below.j2 (k + 1) y0 y1 y2 y3 y4 y5 y6 y7 y8 y9 y10))
 | 0 => ⟨fun _ _ r h => by simp [gramaryeref22_below.f] at h, fun _ _ _ r h => by simp [gramaryeref22_below.j0] at h, fun _ _ _ _ _ _ _ _ _ _ _ r h => by simp [gramaryeref22_below.l0] at h, fun _ _ _ _ _ _ _ _ _ _ _ r h => by simp [gramaryeref22_below.j2] at h⟩
 | k + 1 => by
  obtain ⟨ih0, ih1, ih2, ih3⟩ := gramaryeref22_below.mono_l k
  refine ⟨?_, ?_, ?_, ?_⟩
  ·
   intro y0 y1
   unfold gramaryeref22_below.f
   repeat' first
   | (with_reducible exact ih0 _ _)
   | (with_reducible exact ih1 _ _ _)
   | (with_reducible exact ih2 _ _ _ _ _ _ _ _ _ _ _)
   | (with_reducible exact ih3 _ _ _ _ _ _ _ _ _ _ _)
   | (with_reducible exact gramaryeref22_right.mono _ _ _ _ _ _ _)
   | (with_reducible exact LeO.refl _)
   | (with_reducible exact LeO.none _)
   | (with_reducible refine LeO.ite ?_ ?_)
   | (with_reducible refine LeO.bind ?_ (fun _ => ?_))
   | exact ih0 _ _
   | exact ih1 _ _ _
   | exact ih2 _ _ _ _ _ _ _ _ _ _ _
   | exact ih3 _ _ _ _ _ _ _ _ _ _ _
   | exact gramaryeref22_right.mono _ _ _ _ _ _ _
   | exact LeO.none _
   | refine LeO.ite ?_ ?_
   | refine LeO.bind ?_ (fun _ => ?_)
  ·
   intro y0 y1 y2
   unfold gramaryeref22_below.j0
   repeat' first
   | (with_reducible exact ih0 _ _)
   | (with_reducible exact ih1 _ _ _)
   | (with_reducible exact ih2 _ _ _ _ _ _ _ _ _ _ _)
   | (with_reducible exact ih3 _ _ _ _ _ _ _ _ _ _ _)
   | (with_reducible exact gramaryeref22_right.mono _ _ _ _ _ _ _)
   | (with_reducible exact LeO.refl _)
   | (with_reducible exact LeO.none _)
   | (with_reducible refine LeO.ite ?_ ?_)
   | (with_reducible refine LeO.bind ?_ (fun _ => ?_))
   | exact ih0 _ _
   | exact ih1 _ _ _
   | exact ih2 _ _ _ _ _ _ _ _ _ _ _
   | exact ih3 _ _ _ _ _ _ _ _ _ _ _
   | exact gramaryeref22_right.mono _ _ _ _ _ _ _
   | exact LeO.none _
   | refine LeO.ite ?_ ?_
   | refine LeO.bind ?_ (fun _ => ?_)
  ·
   intro y0 y1 y2 y3 y4 y5 y6 y7 y8 y9 y10
   unfold gramaryeref22_below.l0
   repeat' first
   | (with_reducible exact ih0 _ _)
   | (with_reducible exact ih1 _ _ _)
   | (with_reducible exact ih2 _ _ _ _ _ _ _ _ _ _ _)
   | (with_reducible exact ih3 _ _ _ _ _ _ _ _ _ _ _)
   | (with_reducible exact gramaryeref22_right.mono _ _ _ _ _ _ _)
   | (with_reducible exact LeO.refl _)
   | (with_reducible exact LeO.none _)
   | (with_reducible refine LeO.ite ?_ ?_)
   | (with_reducible refine LeO.bind ?_ (fun _ => ?_))
   | exact ih0 _ _
   | exact ih1 _ _ _
   | exact ih2 _ _ _ _ _ _ _ _ _ _ _
   | exact ih3 _ _ _ _ _ _ _ _ _ _ _
   | exact gramaryeref22_right.mono _ _ _ _ _ _ _
   | exact LeO.none _
   | refine LeO.ite ?_ ?_
   | refine LeO.bind ?_ (fun _ => ?_)
  ·
   intro y0 y1 y2 y3 y4 y5 y6 y7 y8 y9 y10
   unfold gramaryeref22_below.j2
   repeat' first
   | (with_reducible exact ih0 _ _)
   | (with_reducible exact ih1 _ _ _)
   | (with_reducible exact ih2 _ _ _ _ _ _ _ _ _ _ _)
   | (with_reducible exact ih3 _ _ _ _ _ _ _ _ _ _ _)
   | (with_reducible exact gramaryeref22_right.mono _ _ _ _ _ _ _)
   | (with_reducible exact LeO.refl _)
   | (with_reducible exact LeO.none _)
   | (with_reducible refine LeO.ite ?_ ?_)
   | (with_reducible refine LeO.bind ?_ (fun _ => ?_))
   | exact ih0 _ _
   | exact ih1 _ _ _
   | exact ih2 _ _ _ _ _ _ _ _ _ _ _
   | exact ih3 _ _ _ _ _ _ _ _ _ _ _
   | exact gramaryeref22_right.mono _ _ _ _ _ _ _
   | exact LeO.none _
   | refine LeO.ite ?_ ?_
   | refine LeO.bind ?_ (fun _ => ?_)
theorem gramaryeref22_below.mono : ∀ a0 a1 k, LeO (gramaryeref22_below.f k a0 a1) (gramaryeref22_below.f (k + 1) a0 a1) := by
 intro a0 a1 k
 obtain ⟨ih0, ih1, ih2, ih3⟩ := gramaryeref22_below.mono_l k
 exact ih0 a0 a1
set_option maxHeartbeats 8000000 in
set_option maxRecDepth 100000 in
theorem gramaryeref22_below.calls (k : Nat) : ∀ (A0_0 : Option Addr) (c0_0 : Nat) (l0_0 : List (S33)) (a1 : Int) (r : Int) (w : World) (hr0_0 : Kd.C k33 w A0_0 l0_0.length l0_0) (hc0_0 : l0_0.length ≤ c0_0) (h : gramaryeref22_below.f k l0_0 a1 = some r),
  Calls Tryd.prog 46 #[.agg #[.slice A0_0 l0_0.length c0_0], .int .i64 a1] w fun e w' => e = .returned (.int .i64 r) ∧ Below w.heap.size w w' := by
 induction k using Nat.strongRecOn with
 | _ k ih =>
 intro A0_0 c0_0 l0_0 a1 r w hr0_0 hc0_0 h
 cases k with
 | zero => exact absurd h (by simp [gramaryeref22_below.f])
 | succ k =>
 simp only [gramaryeref22_below.f] at h
 have hu24 := Tryd.underlying24
 have hu33 := Tryd.underlying33
 have HR0_0 := Aside0.mk hr0_0
 have HC0_0 := Aside0.mk hc0_0
 clear hr0_0 hc0_0
 have HB := Aside0.mk (Below.refl w.heap.size w)
 have H : (if a1 < 0 then (gramaryeref22_below.j0 k a1 true l0_0) else (if a1 ≥ (l0_0.length : Int) then (gramaryeref22_below.j0 k a1 true l0_0) else (if 0 ≤ a1 then (if a1 < (l0_0.length : Int) then ((gramaryeref22_right.f k ((rd_T33 l0_0 a1).f0) ((rd_T33 l0_0 a1).f1) ((rd_T33 l0_0 a1).f2) ((rd_T33 l0_0 a1).f3) ((rd_T33 l0_0 a1).f4) ((rd_T33 l0_0 a1).f5)).bind fun t136 => (gramaryeref22_below.j0 k a1 (!t136) l0_0)) else (none)) else (none)))) = some r := h
 clear h
 have HC3 := Aside0.mk H
 clear H
 go_enter Tryd.func46, Tryd.ntmps46
 go_upto_region 1 with (first | ((with_reducible refine gate_dst (N := 2) rfl ?_); (try (refine gate_guard (by rfl) ?_; dsimp only)); refine box_event ?hg (N := 2) ?hd (cs := #[.slice A0_0 l0_0.length c0_0]) (t := 24) ?hr ?_; (case hd => rfl); (case hg => rfl); (case hr => first | (go_simp; done) | (go_simp; rfl)); intro gb134 hg w4 hbox hb; have n0_ := Aside0.mk (below_step (by repeat (first | (with_reducible first | exact HB.out | apply below_alloc | apply pw_below_drewN | apply below_drew1) | exact HB.out)) hb); have n1_ := Aside0.mk (hbox); have n2_ := Aside0.mk ((by rw [hg]; exact (below_size (by repeat (first | (with_reducible first | exact HB.out | apply below_alloc | apply pw_below_drewN | apply below_drew1) | exact HB.out))) : w.heap.size ≤ gb134)); have n3_ := Aside0.mk ((by rw [hg]; exact (below_size (by repeat (first | (with_reducible first | exact HB.out | apply below_alloc | apply pw_below_drewN | apply below_drew1) | exact HB.out))) : w.heap.size ≤ gb134)); clear HB; have HB := n0_; have BK134 := n1_; have GW134 := n2_; have GE134 := n3_; clear n0_ n1_ n2_ n3_; clear hb hbox hg))
 repeat (go_quiet (first | ((with_reducible refine gate_dst (N := 2) rfl ?_); (try (refine gate_guard (by rfl) ?_; dsimp only)); refine box_event ?hg (N := 2) ?hd (cs := #[.slice A0_0 l0_0.length c0_0]) (t := 24) ?hr ?_; (case hd => rfl); (case hg => rfl); (case hr => first | (go_simp; done) | (go_simp; rfl)); intro gb134 hg w4 hbox hb; have n0_ := Aside0.mk (below_step (by repeat (first | (with_reducible first | exact HB.out | apply below_alloc | apply pw_below_drewN | apply below_drew1) | exact HB.out)) hb); have n1_ := Aside0.mk (hbox); have n2_ := Aside0.mk ((by rw [hg]; exact (below_size (by repeat (first | (with_reducible first | exact HB.out | apply below_alloc | apply pw_below_drewN | apply below_drew1) | exact HB.out))) : w.heap.size ≤ gb134)); have n3_ := Aside0.mk ((by rw [hg]; exact (below_size (by repeat (first | (with_reducible first | exact HB.out | apply below_alloc | apply pw_below_drewN | apply below_drew1) | exact HB.out))) : w.heap.size ≤ gb134)); clear HB; have HB := n0_; have BK134 := n1_; have GW134 := n2_; have GE134 := n3_; clear n0_ n1_ n2_ n3_; clear hb hbox hg)); go_upto_region 1 with (first | ((with_reducible refine gate_dst (N := 2) rfl ?_); (try (refine gate_guard (by rfl) ?_; dsimp only)); refine box_event ?hg (N := 2) ?hd (cs := #[.slice A0_0 l0_0.length c0_0]) (t := 24) ?hr ?_; (case hd => rfl); (case hg => rfl); (case hr => first | (go_simp; done) | (go_simp; rfl)); intro gb134 hg w4 hbox hb; have n0_ := Aside0.mk (below_step (by repeat (first | (with_reducible first | exact HB.out | apply below_alloc | apply pw_below_drewN | apply below_drew1) | exact HB.out)) hb); have n1_ := Aside0.mk (hbox); have n2_ := Aside0.mk ((by rw [hg]; exact (below_size (by repeat (first | (with_reducible first | exact HB.out | apply below_alloc | apply pw_below_drewN | apply below_drew1) | exact HB.out))) : w.heap.size ≤ gb134)); have n3_ := Aside0.mk ((by rw [hg]; exact (below_size (by repeat (first | (with_reducible first | exact HB.out | apply below_alloc | apply pw_below_drewN | apply below_drew1) | exact HB.out))) : w.heap.size ≤ gb134)); clear HB; have HB := n0_; have BK134 := n1_; have GW134 := n2_; have GE134 := n3_; clear n0_ n1_ n2_ n3_; clear hb hbox hg)))
 (try simp only [Act.put, List.setIfInBounds_toArray, List.set_cons_zero, List.set_cons_succ])
 go_cut [27] (fun v27 wc => ∃ (kq : Nat) (x27_2 : Bool), v27 = .bool x27_2 ∧ Aside0 (gramaryeref22_below.j0 kq a1 x27_2 l0_0 = some r) ∧ Aside0 (kq ≤ k) ∧ Aside0 (wc.heap[gb134]? = some (.cells #[(.slice A0_0 l0_0.length c0_0)] 24 (0, 0))) ∧ Aside0 (Below w.heap.size w wc))
 case first =>
  have H := HC3.out
  clear HC3
  by_cases c5 : a1 < 0
  ·
   rw [if_pos c5] at H
   have c5b0 : decide (a1 < 0) = true := decide_eq_true c5
   clear c5
   (first | rw [c5b0] | (simp only [i64_w, i32_w]; rw [c5b0]) | skip)
   have H' := Aside0.mk H
   clear H
   go_wp2
   repeat (go_quiet (fail); try go_wp2)
   go_meet
   case rel => exact ⟨_, (true), (by first | rfl | (simp; done) | (simp [*]; done)), H', ⟨by first | omega | exact Nat.le_refl _⟩, ⟨by (with_reducible repeat (first | refine blk_drewN ?_ _ | refine blk_drew ?_ | refine blk_alloc ?_ _)); exact BK134.out⟩, ⟨by repeat (first | (with_reducible first | exact HB.out | apply below_alloc | apply pw_below_drewN | apply below_drew1 | refine below_set ?_ GE134.out) | exact HB.out)⟩⟩
  ·
   rw [if_neg c5] at H
   have c5b0 : decide (a1 < 0) = false := decide_eq_false c5
   clear c5
   (first | rw [c5b0] | (simp only [i64_w, i32_w]; rw [c5b0]) | skip)
   by_cases c6 : a1 ≥ (l0_0.length : Int)
   ·
    rw [if_pos c6] at H
    have c6b0 : decide ((l0_0.length : Int) ≤ a1) = true := decide_eq_true c6
    clear c6
    have H' := Aside0.mk H
    clear H
    have hcz7_0 : w4.cell? ⟨gb134, 0, none⟩ = some (.slice A0_0 l0_0.length c0_0) := (blk_cell BK134.out 0).trans rfl
    have hfz7_0 := blk_frozen BK134.out 0
    go_wp2
    repeat (go_quiet (fail); try go_wp2)
    go_meet
    case rel => exact ⟨_, (true), (by first | rfl | (simp; done) | (simp [*]; done)), H', ⟨by first | omega | exact Nat.le_refl _⟩, ⟨by (with_reducible repeat (first | refine blk_drewN ?_ _ | refine blk_drew ?_ | refine blk_alloc ?_ _)); exact BK134.out⟩, ⟨by repeat (first | (with_reducible first | exact HB.out | apply below_alloc | apply pw_below_drewN | apply below_drew1 | refine below_set ?_ GE134.out) | exact HB.out)⟩⟩
   ·
    rw [if_neg c6] at H
    have c6b0 : decide ((l0_0.length : Int) ≤ a1) = false := decide_eq_false c6
    clear c6
    by_cases c8 : 0 ≤ a1
    ·
     rw [if_pos c8] at H
     have c8b0 : decide (0 ≤ a1) = true := decide_eq_true c8
     clear c8
     by_cases c9 : a1 < (l0_0.length : Int)
     ·
      rw [if_pos c9] at H
      have c9b0 : decide (a1 < (l0_0.length : Int)) = true := decide_eq_true c9
      clear c9
      replace H := Option.bind_eq_some_iff.mp H
      obtain ⟨t136, A100, H⟩ := H
      replace H : (gramaryeref22_below.j0 k a1 (!t136) l0_0) = some r := H
      have A10 := Aside0.mk A100
      clear A100
      have H' := Aside0.mk H
      clear H
      have hcz11_0 : w4.cell? ⟨gb134, 0, none⟩ = some (.slice A0_0 l0_0.length c0_0) := (blk_cell BK134.out 0).trans rfl
      have hfz11_0 := blk_frozen BK134.out 0
      have p135 : 0 ≤ (a1 : Int) := of_decide_eq_true (by first | (with_reducible assumption) | assumption)
      have q135 : a1 < (l0_0.length : Int) := of_decide_eq_true (by first | (with_reducible assumption) | assumption)
      obtain ⟨ad135, A135_5, c135_5, e135, hx135_0, hx135_1, hx135_2, hx135_3, hx135_4, hx135_5, hl135_5, hi135_5⟩ := at_T33 HR0_0.out a1 p135 q135
      cases e135
      replace hx135_0 := (HB.out.cell (World.block_lt_of_cell? w _ hx135_0)).trans hx135_0
      replace hx135_1 := (HB.out.cell (World.block_lt_of_cell? w _ hx135_1)).trans hx135_1
      replace hx135_2 := (HB.out.cell (World.block_lt_of_cell? w _ hx135_2)).trans hx135_2
      replace hx135_3 := (HB.out.cell (World.block_lt_of_cell? w _ hx135_3)).trans hx135_3
      replace hx135_4 := (HB.out.cell (World.block_lt_of_cell? w _ hx135_4)).trans hx135_4
      replace hx135_5 := (HB.out.cell (World.block_lt_of_cell? w _ hx135_5)).trans hx135_5
      have HR135_5 := Aside0.mk hi135_5
      have HC135_5 := Aside0.mk hl135_5
      clear hi135_5 hl135_5
      replace p135 := eq_true p135
      replace q135 := eq_true q135
      go_wp2_with (first | (go_at_call 77; (with_reducible refine (gramaryeref22_right.calls k ((rd_T33 l0_0 a1).f0) ((rd_T33 l0_0 a1).f1) ((rd_T33 l0_0 a1).f2) ((rd_T33 l0_0 a1).f3) ((rd_T33 l0_0 a1).f4) _ _ ((rd_T33 l0_0 a1).f5) t136 _ ?side1 ?side2 A10.out).mono ?_); (case side1 => repeat (first | exact (Kd.C_below HR135_5.out HB.out) | (with_reducible refine Kd.C_alloc ?_ _) | (with_reducible refine Kd.C_drewN ?_ _) | (with_reducible refine Kd.C_drew ?_))); (case side2 => exact HC135_5.out); rintro e w12 ⟨rfl, hb⟩; have n0_ := Aside0.mk (blk_below (g := gb134) (o := .cells #[.slice (some ad135) l0_0.length c0_0] 24 (0, 0)) (by (with_reducible repeat (first | refine blk_drewN ?_ _ | refine blk_drew ?_ | refine blk_alloc ?_ _)); exact BK134.out) hb); have n1_ := Aside0.mk (below_step (by repeat (first | (with_reducible first | exact HB.out | apply below_alloc | apply pw_below_drewN | apply below_drew1 | refine below_set ?_ GE134.out) | exact HB.out)) hb); clear BK134; clear HB; have BK134 := n0_; have HB := n1_; clear n0_ n1_; (try clear hb); (try clear hb2); (try clear hk); (try clear hi)))
      repeat (go_quiet (first | (go_at_call 77; (with_reducible refine (gramaryeref22_right.calls k ((rd_T33 l0_0 a1).f0) ((rd_T33 l0_0 a1).f1) ((rd_T33 l0_0 a1).f2) ((rd_T33 l0_0 a1).f3) ((rd_T33 l0_0 a1).f4) _ _ ((rd_T33 l0_0 a1).f5) t136 _ ?side1 ?side2 A10.out).mono ?_); (case side1 => repeat (first | exact (Kd.C_below HR135_5.out HB.out) | (with_reducible refine Kd.C_alloc ?_ _) | (with_reducible refine Kd.C_drewN ?_ _) | (with_reducible refine Kd.C_drew ?_))); (case side2 => exact HC135_5.out); rintro e w12 ⟨rfl, hb⟩; have n0_ := Aside0.mk (blk_below (g := gb134) (o := .cells #[.slice (some ad135) l0_0.length c0_0] 24 (0, 0)) (by (with_reducible repeat (first | refine blk_drewN ?_ _ | refine blk_drew ?_ | refine blk_alloc ?_ _)); exact BK134.out) hb); have n1_ := Aside0.mk (below_step (by repeat (first | (with_reducible first | exact HB.out | apply below_alloc | apply pw_below_drewN | apply below_drew1 | refine below_set ?_ GE134.out) | exact HB.out)) hb); clear BK134; clear HB; have BK134 := n0_; have HB := n1_; clear n0_ n1_; (try clear hb); (try clear hb2); (try clear hk); (try clear hi))); try go_wp2_with (first | (go_at_call 77; (with_reducible refine (gramaryeref22_right.calls k ((rd_T33 l0_0 a1).f0) ((rd_T33 l0_0 a1).f1) ((rd_T33 l0_0 a1).f2) ((rd_T33 l0_0 a1).f3) ((rd_T33 l0_0 a1).f4) _ _ ((rd_T33 l0_0 a1).f5) t136 _ ?side1 ?side2 A10.out).mono ?_); (case side1 => repeat (first | exact (Kd.C_below HR135_5.out HB.out) | (with_reducible refine Kd.C_alloc ?_ _) | (with_reducible refine Kd.C_drewN ?_ _) | (with_reducible refine Kd.C_drew ?_))); (case side2 => exact HC135_5.out); rintro e w12 ⟨rfl, hb⟩; have n0_ := Aside0.mk (blk_below (g := gb134) (o := .cells #[.slice (some ad135) l0_0.length c0_0] 24 (0, 0)) (by (with_reducible repeat (first | refine blk_drewN ?_ _ | refine blk_drew ?_ | refine blk_alloc ?_ _)); exact BK134.out) hb); have n1_ := Aside0.mk (below_step (by repeat (first | (with_reducible first | exact HB.out | apply below_alloc | apply pw_below_drewN | apply below_drew1 | refine below_set ?_ GE134.out) | exact HB.out)) hb); clear BK134; clear HB; have BK134 := n0_; have HB := n1_; clear n0_ n1_; (try clear hb); (try clear hb2); (try clear hk); (try clear hi))))
      go_meet
      case rel => exact ⟨_, (!t136), (by first | rfl | (simp; done) | (simp [*]; done)), H', ⟨by first | omega | exact Nat.le_refl _⟩, ⟨by (with_reducible repeat (first | refine blk_drewN ?_ _ | refine blk_drew ?_ | refine blk_alloc ?_ _)); exact BK134.out⟩, ⟨by repeat (first | (with_reducible first | exact HB.out | apply below_alloc | apply pw_below_drewN | apply below_drew1 | refine below_set ?_ GE134.out) | exact HB.out)⟩⟩
     ·
      rw [if_neg c9] at H
      exact absurd H (by simp)
    ·
     rw [if_neg c8] at H
     exact absurd H (by simp)
 case rest =>
  clear HC3
  try clear c1
  try clear p1
  try clear q1
  try clear hx1
  try clear p2
  try clear c4
  try clear c5
  try clear c5b0
  try clear c6
  try clear c6b0
  try clear c8
  try clear c8b0
  try clear c9
  try clear c9b0
  try clear hcz11_0
  try clear hcz7_0
  try clear hfz11_0
  try clear hfz7_0
  try clear hx135_0
  try clear hx135_1
  try clear hx135_2
  try clear hx135_3
  try clear hx135_4
  try clear hx135_5
  try clear p135
  try clear q135
  obtain ⟨kq, x27_2, rfl, HA, HJ2, BK134, HB⟩ := hcut
  cases kq with
  | zero => exact absurd HA.out (by simp [gramaryeref22_below.j0])
  | succ kj2 =>
   have H := HA.out
   clear HA
   simp only [gramaryeref22_below.j0] at H
   by_cases c13 : x27_2 = true
   ·
    subst c13
    have H1 : (some (-1)) = some r := by rw [if_pos rfl] at H; exact H
    clear H
    have H := H1
    clear H1
    obtain rfl := Option.some.inj H
    go_wp2
    repeat (go_quiet (fail); try go_wp2)
    go_ret
    exact ⟨by first | rfl | (simp [errW_none, errW_some] <;> rfl) | (simp [*, errW_none, errW_some] <;> rfl), by repeat (first | (with_reducible first | exact HB.out | apply below_alloc | apply pw_below_drewN | apply below_drew1 | refine below_set ?_ GE134.out) | exact HB.out)⟩
   ·
    replace c13 := Bool.eq_false_iff.mpr c13
    subst c13
    have H1 : (if 0 ≤ a1 then (if a1 < (l0_0.length : Int) then (gramaryeref22_below.l0 kj2 a1 (wrap64 (a1 + 1)) ((rd_T33 l0_0 a1).f2) 0 l0_0 ((rd_T33 l0_0 a1).f0) ((rd_T33 l0_0 a1).f1) ((rd_T33 l0_0 a1).f2) ((rd_T33 l0_0 a1).f3) ((rd_T33 l0_0 a1).f4) ((rd_T33 l0_0 a1).f5)) else (none)) else (none)) = some r := by rw [if_neg (show ¬ (false = true) by decide)] at H; exact H
    clear H
    have H := H1
    clear H1
    by_cases c14 : 0 ≤ a1
    ·
     rw [if_pos c14] at H
     have c14b0 : decide (0 ≤ a1) = true := decide_eq_true c14
     clear c14
     by_cases c15 : a1 < (l0_0.length : Int)
     ·
      rw [if_pos c15] at H
      have c15b0 : decide (a1 < (l0_0.length : Int)) = true := decide_eq_true c15
      clear c15
      have H' := Aside0.mk H
      clear H
      have hcz16_0 : wc.cell? ⟨gb134, 0, none⟩ = some (.slice A0_0 l0_0.length c0_0) := (blk_cell BK134.out 0).trans rfl
      have hfz16_0 := blk_frozen BK134.out 0
      have p137 : 0 ≤ (a1 : Int) := of_decide_eq_true (by first | (with_reducible assumption) | assumption)
      have q137 : a1 < (l0_0.length : Int) := of_decide_eq_true (by first | (with_reducible assumption) | assumption)
      obtain ⟨ad137, A137_5, c137_5, e137, hx137_0, hx137_1, hx137_2, hx137_3, hx137_4, hx137_5, hl137_5, hi137_5⟩ := at_T33 HR0_0.out a1 p137 q137
      cases e137
      replace hx137_0 := (HB.out.cell (World.block_lt_of_cell? w _ hx137_0)).trans hx137_0
      replace hx137_1 := (HB.out.cell (World.block_lt_of_cell? w _ hx137_1)).trans hx137_1
      replace hx137_2 := (HB.out.cell (World.block_lt_of_cell? w _ hx137_2)).trans hx137_2
      replace hx137_3 := (HB.out.cell (World.block_lt_of_cell? w _ hx137_3)).trans hx137_3
      replace hx137_4 := (HB.out.cell (World.block_lt_of_cell? w _ hx137_4)).trans hx137_4
      replace hx137_5 := (HB.out.cell (World.block_lt_of_cell? w _ hx137_5)).trans hx137_5
      have HR137_5 := Aside0.mk hi137_5
      have HC137_5 := Aside0.mk hl137_5
      clear hi137_5 hl137_5
      replace p137 := eq_true p137
      replace q137 := eq_true q137
      go_wp2_with (first | ((with_reducible refine gate_dst (N := 5) rfl ?_); (try (refine gate_guard (by rfl) ?_; dsimp only)); refine box_event ?hg (N := 5) ?hd (cs := #[.int .i64 0, .int .i64 0, .int .i64 0, .int .i64 0, .string (⟨#[]⟩ : ByteArray), .slice none 0 0]) (t := 33) ?hr ?_; (case hd => rfl); (case hg => rfl); (case hr => first | (go_simp; done) | (go_simp; rfl)); intro gb138 hg w17 hbox hb; have n0_ := Aside0.mk (blk_below (g := gb134) (o := .cells #[.slice (some ad137) l0_0.length c0_0] 24 (0, 0)) (by (with_reducible repeat (first | refine blk_drewN ?_ _ | refine blk_drew ?_ | refine blk_alloc ?_ _)); exact BK134.out) hb); have n1_ := Aside0.mk (below_step (by repeat (first | (with_reducible first | exact HB.out | apply below_alloc | apply pw_below_drewN | apply below_drew1 | refine below_set ?_ GE134.out) | exact HB.out)) hb); have n2_ := Aside0.mk (hbox); have n3_ := Aside0.mk ((by rw [hg]; exact (below_size (by repeat (first | (with_reducible first | exact HB.out | apply below_alloc | apply pw_below_drewN | apply below_drew1 | refine below_set ?_ GE134.out) | exact HB.out))) : w.heap.size ≤ gb138)); have n4_ := Aside0.mk ((by rw [hg]; exact (below_size (by repeat (first | (with_reducible first | exact HB.out | apply below_alloc | apply pw_below_drewN | apply below_drew1 | refine below_set ?_ GE134.out) | exact HB.out))) : w.heap.size ≤ gb138)); have n5_ := Aside0.mk ((by rw [hg]; exact Nat.ne_of_lt (blk_lt (g := gb134) (o := .cells #[.slice (some ad137) l0_0.length c0_0] 24 (0, 0)) (by (with_reducible repeat (first | refine blk_drewN ?_ _ | refine blk_drew ?_ | refine blk_alloc ?_ _)); exact BK134.out)) : gb134 ≠ gb138)); have n6_ := Aside0.mk ((by rw [hg]; exact Nat.ne_of_gt (blk_lt (g := gb134) (o := .cells #[.slice (some ad137) l0_0.length c0_0] 24 (0, 0)) (by (with_reducible repeat (first | refine blk_drewN ?_ _ | refine blk_drew ?_ | refine blk_alloc ?_ _)); exact BK134.out)) : gb138 ≠ gb134)); clear BK134; clear HB; have BK134 := n0_; have HB := n1_; have BK138 := n2_; have GW138 := n3_; have GE138 := n4_; have NB134_138 := n5_; have NB138_134 := n6_; clear n0_ n1_ n2_ n3_ n4_ n5_ n6_; clear hb hbox hg; have hnb18 := NB138_134.out; have hnc18 := NB134_138.out; have hcz19_0 : w17.cell? ⟨gb138, 0, none⟩ = some (.int .i64 0) := (blk_cell BK138.out 0).trans rfl; have hcz19_1 : w17.cell? ⟨gb138, 1, none⟩ = some (.int .i64 0) := (blk_cell BK138.out 1).trans rfl; have hcz19_2 : w17.cell? ⟨gb138, 2, none⟩ = some (.int .i64 0) := (blk_cell BK138.out 2).trans rfl; have hcz19_3 : w17.cell? ⟨gb138, 3, none⟩ = some (.int .i64 0) := (blk_cell BK138.out 3).trans rfl; have hcz19_4 : w17.cell? ⟨gb138, 4, none⟩ = some (.string (⟨#[]⟩ : ByteArray)) := (blk_cell BK138.out 4).trans rfl; have hcz19_5 : w17.cell? ⟨gb138, 5, none⟩ = some (.slice none 0 0) := (blk_cell BK138.out 5).trans rfl; have hfz19_0 := blk_frozen BK138.out 0; have hfz19_1 := blk_frozen BK138.out 1; have hfz19_2 := blk_frozen BK138.out 2; have hfz19_3 := blk_frozen BK138.out 3; have hfz19_4 := blk_frozen BK138.out 4; have hfz19_5 := blk_frozen BK138.out 5))
      repeat (go_quiet (first | ((with_reducible refine gate_dst (N := 5) rfl ?_); (try (refine gate_guard (by rfl) ?_; dsimp only)); refine box_event ?hg (N := 5) ?hd (cs := #[.int .i64 0, .int .i64 0, .int .i64 0, .int .i64 0, .string (⟨#[]⟩ : ByteArray), .slice none 0 0]) (t := 33) ?hr ?_; (case hd => rfl); (case hg => rfl); (case hr => first | (go_simp; done) | (go_simp; rfl)); intro gb138 hg w17 hbox hb; have n0_ := Aside0.mk (blk_below (g := gb134) (o := .cells #[.slice (some ad137) l0_0.length c0_0] 24 (0, 0)) (by (with_reducible repeat (first | refine blk_drewN ?_ _ | refine blk_drew ?_ | refine blk_alloc ?_ _)); exact BK134.out) hb); have n1_ := Aside0.mk (below_step (by repeat (first | (with_reducible first | exact HB.out | apply below_alloc | apply pw_below_drewN | apply below_drew1 | refine below_set ?_ GE134.out) | exact HB.out)) hb); have n2_ := Aside0.mk (hbox); have n3_ := Aside0.mk ((by rw [hg]; exact (below_size (by repeat (first | (with_reducible first | exact HB.out | apply below_alloc | apply pw_below_drewN | apply below_drew1 | refine below_set ?_ GE134.out) | exact HB.out))) : w.heap.size ≤ gb138)); have n4_ := Aside0.mk ((by rw [hg]; exact (below_size (by repeat (first | (with_reducible first | exact HB.out | apply below_alloc | apply pw_below_drewN | apply below_drew1 | refine below_set ?_ GE134.out) | exact HB.out))) : w.heap.size ≤ gb138)); have n5_ := Aside0.mk ((by rw [hg]; exact Nat.ne_of_lt (blk_lt (g := gb134) (o := .cells #[.slice (some ad137) l0_0.length c0_0] 24 (0, 0)) (by (with_reducible repeat (first | refine blk_drewN ?_ _ | refine blk_drew ?_ | refine blk_alloc ?_ _)); exact BK134.out)) : gb134 ≠ gb138)); have n6_ := Aside0.mk ((by rw [hg]; exact Nat.ne_of_gt (blk_lt (g := gb134) (o := .cells #[.slice (some ad137) l0_0.length c0_0] 24 (0, 0)) (by (with_reducible repeat (first | refine blk_drewN ?_ _ | refine blk_drew ?_ | refine blk_alloc ?_ _)); exact BK134.out)) : gb138 ≠ gb134)); clear BK134; clear HB; have BK134 := n0_; have HB := n1_; have BK138 := n2_; have GW138 := n3_; have GE138 := n4_; have NB134_138 := n5_; have NB138_134 := n6_; clear n0_ n1_ n2_ n3_ n4_ n5_ n6_; clear hb hbox hg; have hnb18 := NB138_134.out; have hnc18 := NB134_138.out; have hcz19_0 : w17.cell? ⟨gb138, 0, none⟩ = some (.int .i64 0) := (blk_cell BK138.out 0).trans rfl; have hcz19_1 : w17.cell? ⟨gb138, 1, none⟩ = some (.int .i64 0) := (blk_cell BK138.out 1).trans rfl; have hcz19_2 : w17.cell? ⟨gb138, 2, none⟩ = some (.int .i64 0) := (blk_cell BK138.out 2).trans rfl; have hcz19_3 : w17.cell? ⟨gb138, 3, none⟩ = some (.int .i64 0) := (blk_cell BK138.out 3).trans rfl; have hcz19_4 : w17.cell? ⟨gb138, 4, none⟩ = some (.string (⟨#[]⟩ : ByteArray)) := (blk_cell BK138.out 4).trans rfl; have hcz19_5 : w17.cell? ⟨gb138, 5, none⟩ = some (.slice none 0 0) := (blk_cell BK138.out 5).trans rfl; have hfz19_0 := blk_frozen BK138.out 0; have hfz19_1 := blk_frozen BK138.out 1; have hfz19_2 := blk_frozen BK138.out 2; have hfz19_3 := blk_frozen BK138.out 3; have hfz19_4 := blk_frozen BK138.out 4; have hfz19_5 := blk_frozen BK138.out 5)); try go_wp2_with (first | ((with_reducible refine gate_dst (N := 5) rfl ?_); (try (refine gate_guard (by rfl) ?_; dsimp only)); refine box_event ?hg (N := 5) ?hd (cs := #[.int .i64 0, .int .i64 0, .int .i64 0, .int .i64 0, .string (⟨#[]⟩ : ByteArray), .slice none 0 0]) (t := 33) ?hr ?_; (case hd => rfl); (case hg => rfl); (case hr => first | (go_simp; done) | (go_simp; rfl)); intro gb138 hg w17 hbox hb; have n0_ := Aside0.mk (blk_below (g := gb134) (o := .cells #[.slice (some ad137) l0_0.length c0_0] 24 (0, 0)) (by (with_reducible repeat (first | refine blk_drewN ?_ _ | refine blk_drew ?_ | refine blk_alloc ?_ _)); exact BK134.out) hb); have n1_ := Aside0.mk (below_step (by repeat (first | (with_reducible first | exact HB.out | apply below_alloc | apply pw_below_drewN | apply below_drew1 | refine below_set ?_ GE134.out) | exact HB.out)) hb); have n2_ := Aside0.mk (hbox); have n3_ := Aside0.mk ((by rw [hg]; exact (below_size (by repeat (first | (with_reducible first | exact HB.out | apply below_alloc | apply pw_below_drewN | apply below_drew1 | refine below_set ?_ GE134.out) | exact HB.out))) : w.heap.size ≤ gb138)); have n4_ := Aside0.mk ((by rw [hg]; exact (below_size (by repeat (first | (with_reducible first | exact HB.out | apply below_alloc | apply pw_below_drewN | apply below_drew1 | refine below_set ?_ GE134.out) | exact HB.out))) : w.heap.size ≤ gb138)); have n5_ := Aside0.mk ((by rw [hg]; exact Nat.ne_of_lt (blk_lt (g := gb134) (o := .cells #[.slice (some ad137) l0_0.length c0_0] 24 (0, 0)) (by (with_reducible repeat (first | refine blk_drewN ?_ _ | refine blk_drew ?_ | refine blk_alloc ?_ _)); exact BK134.out)) : gb134 ≠ gb138)); have n6_ := Aside0.mk ((by rw [hg]; exact Nat.ne_of_gt (blk_lt (g := gb134) (o := .cells #[.slice (some ad137) l0_0.length c0_0] 24 (0, 0)) (by (with_reducible repeat (first | refine blk_drewN ?_ _ | refine blk_drew ?_ | refine blk_alloc ?_ _)); exact BK134.out)) : gb138 ≠ gb134)); clear BK134; clear HB; have BK134 := n0_; have HB := n1_; have BK138 := n2_; have GW138 := n3_; have GE138 := n4_; have NB134_138 := n5_; have NB138_134 := n6_; clear n0_ n1_ n2_ n3_ n4_ n5_ n6_; clear hb hbox hg; have hnb18 := NB138_134.out; have hnc18 := NB134_138.out; have hcz19_0 : w17.cell? ⟨gb138, 0, none⟩ = some (.int .i64 0) := (blk_cell BK138.out 0).trans rfl; have hcz19_1 : w17.cell? ⟨gb138, 1, none⟩ = some (.int .i64 0) := (blk_cell BK138.out 1).trans rfl; have hcz19_2 : w17.cell? ⟨gb138, 2, none⟩ = some (.int .i64 0) := (blk_cell BK138.out 2).trans rfl; have hcz19_3 : w17.cell? ⟨gb138, 3, none⟩ = some (.int .i64 0) := (blk_cell BK138.out 3).trans rfl; have hcz19_4 : w17.cell? ⟨gb138, 4, none⟩ = some (.string (⟨#[]⟩ : ByteArray)) := (blk_cell BK138.out 4).trans rfl; have hcz19_5 : w17.cell? ⟨gb138, 5, none⟩ = some (.slice none 0 0) := (blk_cell BK138.out 5).trans rfl; have hfz19_0 := blk_frozen BK138.out 0; have hfz19_1 := blk_frozen BK138.out 1; have hfz19_2 := blk_frozen BK138.out 2; have hfz19_3 := blk_frozen BK138.out 3; have hfz19_4 := blk_frozen BK138.out 4; have hfz19_5 := blk_frozen BK138.out 5)))
      go_loopg [6, 7, 8] kj2 (fun kq v6 v7 v8 w' => ∃ (x6_2 : Int) (x7_2 : Int) (x8_2 : Int), v6 = .int .i64 x6_2 ∧ v7 = .int .i64 x7_2 ∧ v8 = .int .i64 x8_2 ∧ Aside0 (gramaryeref22_below.l0 kq a1 x6_2 x7_2 x8_2 l0_0 ((rd_T33 l0_0 a1).f0) ((rd_T33 l0_0 a1).f1) ((rd_T33 l0_0 a1).f2) ((rd_T33 l0_0 a1).f3) ((rd_T33 l0_0 a1).f4) ((rd_T33 l0_0 a1).f5) = some r) ∧ Aside0 (kq ≤ kj2) ∧ Aside0 (w'.heap[gb134]? = some (.cells #[(.slice (some ad137) l0_0.length c0_0)] 24 (0, 0))) ∧ Aside0 (w'.heap[gb138]? = some (.cells #[.int .i64 ((rd_T33 l0_0 a1).f0), .int .i64 ((rd_T33 l0_0 a1).f1), .int .i64 ((rd_T33 l0_0 a1).f2), .int .i64 ((rd_T33 l0_0 a1).f3), .string ((rd_T33 l0_0 a1).f4), (.slice A137_5 ((rd_T33 l0_0 a1).f5).length c137_5)] 33 (0, 0))) ∧ Aside0 (Below w.heap.size w w'))
      case atStart => exact ⟨(wrap64 (a1 + 1)), ((rd_T33 l0_0 a1).f2), (0), (by first | rfl | (simp; done) | (simp [*]; done)), (by first | rfl | (simp; done) | (simp [*]; done)), (by first | rfl | (simp; done) | (simp [*]; done)), H', ⟨Nat.le_refl _⟩, ⟨by (with_reducible repeat (first | refine blk_drewN ?_ _ | refine blk_drew ?_ | refine blk_alloc ?_ _)); refine blk_far ?_ NB134_138.out _; (with_reducible repeat (first | refine blk_drewN ?_ _ | refine blk_drew ?_ | refine blk_alloc ?_ _)); refine blk_far ?_ NB134_138.out _; (with_reducible repeat (first | refine blk_drewN ?_ _ | refine blk_drew ?_ | refine blk_alloc ?_ _)); refine blk_far ?_ NB134_138.out _; (with_reducible repeat (first | refine blk_drewN ?_ _ | refine blk_drew ?_ | refine blk_alloc ?_ _)); refine blk_far ?_ NB134_138.out _; (with_reducible repeat (first | refine blk_drewN ?_ _ | refine blk_drew ?_ | refine blk_alloc ?_ _)); refine blk_far ?_ NB134_138.out _; (with_reducible repeat (first | refine blk_drewN ?_ _ | refine blk_drew ?_ | refine blk_alloc ?_ _)); refine blk_far ?_ NB134_138.out _; (with_reducible repeat (first | refine blk_drewN ?_ _ | refine blk_drew ?_ | refine blk_alloc ?_ _)); exact BK134.out⟩, ⟨by (with_reducible repeat (first | refine blk_drewN ?_ _ | refine blk_drew ?_ | refine blk_alloc ?_ _)); refine blk_put (cs := #[.int .i64 ((rd_T33 l0_0 a1).f0), .int .i64 ((rd_T33 l0_0 a1).f1), .int .i64 ((rd_T33 l0_0 a1).f2), .int .i64 ((rd_T33 l0_0 a1).f3), .string ((rd_T33 l0_0 a1).f4), .slice none 0 0]) ?_ 5 _ rfl; (with_reducible repeat (first | refine blk_drewN ?_ _ | refine blk_drew ?_ | refine blk_alloc ?_ _)); refine blk_put (cs := #[.int .i64 ((rd_T33 l0_0 a1).f0), .int .i64 ((rd_T33 l0_0 a1).f1), .int .i64 ((rd_T33 l0_0 a1).f2), .int .i64 ((rd_T33 l0_0 a1).f3), .string (⟨#[]⟩ : ByteArray), .slice none 0 0]) ?_ 4 _ rfl; (with_reducible repeat (first | refine blk_drewN ?_ _ | refine blk_drew ?_ | refine blk_alloc ?_ _)); refine blk_put (cs := #[.int .i64 ((rd_T33 l0_0 a1).f0), .int .i64 ((rd_T33 l0_0 a1).f1), .int .i64 ((rd_T33 l0_0 a1).f2), .int .i64 0, .string (⟨#[]⟩ : ByteArray), .slice none 0 0]) ?_ 3 _ rfl; (with_reducible repeat (first | refine blk_drewN ?_ _ | refine blk_drew ?_ | refine blk_alloc ?_ _)); refine blk_put (cs := #[.int .i64 ((rd_T33 l0_0 a1).f0), .int .i64 ((rd_T33 l0_0 a1).f1), .int .i64 0, .int .i64 0, .string (⟨#[]⟩ : ByteArray), .slice none 0 0]) ?_ 2 _ rfl; (with_reducible repeat (first | refine blk_drewN ?_ _ | refine blk_drew ?_ | refine blk_alloc ?_ _)); refine blk_put (cs := #[.int .i64 ((rd_T33 l0_0 a1).f0), .int .i64 0, .int .i64 0, .int .i64 0, .string (⟨#[]⟩ : ByteArray), .slice none 0 0]) ?_ 1 _ rfl; (with_reducible repeat (first | refine blk_drewN ?_ _ | refine blk_drew ?_ | refine blk_alloc ?_ _)); refine blk_put (cs := #[.int .i64 0, .int .i64 0, .int .i64 0, .int .i64 0, .string (⟨#[]⟩ : ByteArray), .slice none 0 0]) ?_ 0 _ rfl; (with_reducible repeat (first | refine blk_drewN ?_ _ | refine blk_drew ?_ | refine blk_alloc ?_ _)); exact BK138.out⟩, ⟨by repeat (first | (with_reducible first | exact HB.out | apply below_alloc | apply pw_below_drewN | apply below_drew1 | refine below_set ?_ GE134.out | refine below_set ?_ GE138.out) | exact HB.out)⟩⟩
      case round =>
       clear H'
       try clear c1
       try clear p1
       try clear q1
       try clear hx1
       try clear p2
       try clear c4
       try clear c5
       try clear c5b0
       try clear c6
       try clear c6b0
       try clear p6
       try clear c8
       try clear c8b0
       try clear c9
       try clear c9b0
       try clear c13
       try clear p13
       try clear q13
       try clear hx13
       try clear c14
       try clear c14b0
       try clear c15
       try clear c15b0
       try clear c18
       try clear hcz11_0
       try clear hcz16_0
       try clear hcz19_0
       try clear hcz19_1
       try clear hcz19_2
       try clear hcz19_3
       try clear hcz19_4
       try clear hcz19_5
       try clear hcz7_0
       try clear hfz11_0
       try clear hfz16_0
       try clear hfz19_0
       try clear hfz19_1
       try clear hfz19_2
       try clear hfz19_3
       try clear hfz19_4
       try clear hfz19_5
       try clear hfz7_0
       try clear hx135_0
       try clear hx135_1
       try clear hx135_2
       try clear hx135_3
       try clear hx135_4
       try clear hx135_5
       try clear hx137_0
       try clear hx137_1
       try clear hx137_2
       try clear hx137_3
       try clear hx137_4
       try clear hx137_5
       try clear p1
       try clear p135
       try clear p137
       try clear p2
       try clear q1
       try clear q135
       try clear q137
       obtain ⟨x6_2, x7_2, x8_2, rfl, rfl, rfl, HA, HK2, BK134, BK138, HB⟩ := hrel
       cases gk with
       | zero => exact absurd HA.out (by simp [gramaryeref22_below.l0])
       | succ k2 =>
        have H := HA.out
        clear HA
        simp only [gramaryeref22_below.l0] at H
        by_cases c20 : x8_2 < (((rd_T33 l0_0 a1).f5).length : Int)
        ·
         rw [if_pos c20] at H
         have c20b0 : decide (x8_2 < (((rd_T33 l0_0 a1).f5).length : Int)) = true := decide_eq_true c20
         clear c20
         have HC21 := Aside0.mk H
         clear H
         have hnb22 := NB138_134.out
         have hnc22 := NB134_138.out
         have hcz23_0 : wr.cell? ⟨gb138, 0, none⟩ = some (.int .i64 ((rd_T33 l0_0 a1).f0)) := (blk_cell BK138.out 0).trans rfl
         have hcz23_1 : wr.cell? ⟨gb138, 1, none⟩ = some (.int .i64 ((rd_T33 l0_0 a1).f1)) := (blk_cell BK138.out 1).trans rfl
         have hcz23_2 : wr.cell? ⟨gb138, 2, none⟩ = some (.int .i64 ((rd_T33 l0_0 a1).f2)) := (blk_cell BK138.out 2).trans rfl
         have hcz23_3 : wr.cell? ⟨gb138, 3, none⟩ = some (.int .i64 ((rd_T33 l0_0 a1).f3)) := (blk_cell BK138.out 3).trans rfl
         have hcz23_4 : wr.cell? ⟨gb138, 4, none⟩ = some (.string ((rd_T33 l0_0 a1).f4)) := (blk_cell BK138.out 4).trans rfl
         have hcz23_5 : wr.cell? ⟨gb138, 5, none⟩ = some (.slice A137_5 ((rd_T33 l0_0 a1).f5).length c137_5) := (blk_cell BK138.out 5).trans rfl
         have hfz23_0 := blk_frozen BK138.out 0
         have hfz23_1 := blk_frozen BK138.out 1
         have hfz23_2 := blk_frozen BK138.out 2
         have hfz23_3 := blk_frozen BK138.out 3
         have hfz23_4 := blk_frozen BK138.out 4
         have hfz23_5 := blk_frozen BK138.out 5
         go_upto_region 8 with (fail)
         repeat (go_quiet (fail); go_upto_region 8 with (fail))
         go_cut [67] (fun v67 wc => ∃ (kq : Nat) (x67_20 : Bool), v67 = .bool x67_20 ∧ Aside0 (gramaryeref22_below.j2 kq a1 x6_2 x8_2 x67_20 l0_0 ((rd_T33 l0_0 a1).f0) ((rd_T33 l0_0 a1).f1) ((rd_T33 l0_0 a1).f2) ((rd_T33 l0_0 a1).f3) ((rd_T33 l0_0 a1).f4) ((rd_T33 l0_0 a1).f5) = some r) ∧ Aside0 (kq ≤ k2) ∧ Aside0 (wc.heap[gb134]? = some (.cells #[(.slice (some ad137) l0_0.length c0_0)] 24 (0, 0))) ∧ Aside0 (wc.heap[gb138]? = some (.cells #[.int .i64 ((rd_T33 l0_0 a1).f0), .int .i64 ((rd_T33 l0_0 a1).f1), .int .i64 ((rd_T33 l0_0 a1).f2), .int .i64 ((rd_T33 l0_0 a1).f3), .string ((rd_T33 l0_0 a1).f4), (.slice A137_5 ((rd_T33 l0_0 a1).f5).length c137_5)] 33 (0, 0))) ∧ Aside0 (Below w.heap.size w wc))
         case first =>
          have H := HC21.out
          clear HC21
          by_cases c24 : 0 ≤ x8_2
          ·
           rw [if_pos c24] at H
           have c24b0 : decide (0 ≤ x8_2) = true := decide_eq_true c24
           clear c24
           (first | rw [c24b0] | (simp only [i64_w, i32_w]; rw [c24b0]) | skip)
           by_cases c25 : (rd ((rd_T33 l0_0 a1).f5) x8_2) = x6_2
           ·
            rw [if_pos c25] at H
            have c25b0 : ((rd ((rd_T33 l0_0 a1).f5) x8_2) == x6_2) = true := beq_iff_eq.mpr c25
            have c25b1 : ((rd ((rd_T33 l0_0 a1).f5) x8_2) != x6_2) = false := bne_eq_false_iff_eq.mpr c25
            clear c25
            by_cases c26 : x6_2 ≥ (l0_0.length : Int)
            ·
             rw [if_pos c26] at H
             have c26b0 : decide ((l0_0.length : Int) ≤ x6_2) = true := decide_eq_true c26
             clear c26
             have H' := Aside0.mk H
             clear H
             have hnb27 := NB138_134.out
             have hnc27 := NB134_138.out
             have hcz28_0 : wr.cell? ⟨gb138, 0, none⟩ = some (.int .i64 ((rd_T33 l0_0 a1).f0)) := (blk_cell BK138.out 0).trans rfl
             have hcz28_1 : wr.cell? ⟨gb138, 1, none⟩ = some (.int .i64 ((rd_T33 l0_0 a1).f1)) := (blk_cell BK138.out 1).trans rfl
             have hcz28_2 : wr.cell? ⟨gb138, 2, none⟩ = some (.int .i64 ((rd_T33 l0_0 a1).f2)) := (blk_cell BK138.out 2).trans rfl
             have hcz28_3 : wr.cell? ⟨gb138, 3, none⟩ = some (.int .i64 ((rd_T33 l0_0 a1).f3)) := (blk_cell BK138.out 3).trans rfl
             have hcz28_4 : wr.cell? ⟨gb138, 4, none⟩ = some (.string ((rd_T33 l0_0 a1).f4)) := (blk_cell BK138.out 4).trans rfl
             have hcz28_5 : wr.cell? ⟨gb138, 5, none⟩ = some (.slice A137_5 ((rd_T33 l0_0 a1).f5).length c137_5) := (blk_cell BK138.out 5).trans rfl
             have hfz28_0 := blk_frozen BK138.out 0
             have hfz28_1 := blk_frozen BK138.out 1
             have hfz28_2 := blk_frozen BK138.out 2
             have hfz28_3 := blk_frozen BK138.out 3
             have hfz28_4 := blk_frozen BK138.out 4
             have hfz28_5 := blk_frozen BK138.out 5
             have p139 : 0 ≤ (x8_2 : Int) := of_decide_eq_true (by first | (with_reducible assumption) | assumption)
             have q139 : x8_2 < (((rd_T33 l0_0 a1).f5).length : Int) := of_decide_eq_true (by first | (with_reducible assumption) | assumption)
             obtain ⟨ad139, e139, hx139_0⟩ := Kd.at_int HR137_5.out x8_2 p139 q139
             cases e139
             replace hx139_0 := (HB.out.cell (World.block_lt_of_cell? w _ hx139_0)).trans hx139_0
             replace p139 := eq_true p139
             replace q139 := eq_true q139
             have hcz29_0 : wr.cell? ⟨gb134, 0, none⟩ = some (.slice (some ad137) l0_0.length c0_0) := (blk_cell BK134.out 0).trans rfl
             have hfz29_0 := blk_frozen BK134.out 0
             go_wp2
             repeat (go_quiet (fail); try go_wp2)
             go_meet
             case rel => exact ⟨_, (true), (by first | rfl | (simp; done) | (simp [*]; done)), H', ⟨by have := HJ2.out; have := HK2.out; first | omega | exact Nat.le_refl _⟩, ⟨by (with_reducible repeat (first | refine blk_drewN ?_ _ | refine blk_drew ?_ | refine blk_alloc ?_ _)); exact BK134.out⟩, ⟨by (with_reducible repeat (first | refine blk_drewN ?_ _ | refine blk_drew ?_ | refine blk_alloc ?_ _)); exact BK138.out⟩, ⟨by repeat (first | (with_reducible first | exact HB.out | apply below_alloc | apply pw_below_drewN | apply below_drew1 | refine below_set ?_ GE134.out | refine below_set ?_ GE138.out) | exact HB.out)⟩⟩
            ·
             rw [if_neg c26] at H
             have c26b0 : decide ((l0_0.length : Int) ≤ x6_2) = false := decide_eq_false c26
             clear c26
             by_cases c30 : 0 ≤ x6_2
             ·
              rw [if_pos c30] at H
              have c30b0 : decide (0 ≤ x6_2) = true := decide_eq_true c30
              clear c30
              by_cases c31 : x6_2 < (l0_0.length : Int)
              ·
               rw [if_pos c31] at H
               have c31b0 : decide (x6_2 < (l0_0.length : Int)) = true := decide_eq_true c31
               clear c31
               have H' := Aside0.mk H
               clear H
               have hnb32 := NB138_134.out
               have hnc32 := NB134_138.out
               have hcz33_0 : wr.cell? ⟨gb138, 0, none⟩ = some (.int .i64 ((rd_T33 l0_0 a1).f0)) := (blk_cell BK138.out 0).trans rfl
               have hcz33_1 : wr.cell? ⟨gb138, 1, none⟩ = some (.int .i64 ((rd_T33 l0_0 a1).f1)) := (blk_cell BK138.out 1).trans rfl
               have hcz33_2 : wr.cell? ⟨gb138, 2, none⟩ = some (.int .i64 ((rd_T33 l0_0 a1).f2)) := (blk_cell BK138.out 2).trans rfl
               have hcz33_3 : wr.cell? ⟨gb138, 3, none⟩ = some (.int .i64 ((rd_T33 l0_0 a1).f3)) := (blk_cell BK138.out 3).trans rfl
               have hcz33_4 : wr.cell? ⟨gb138, 4, none⟩ = some (.string ((rd_T33 l0_0 a1).f4)) := (blk_cell BK138.out 4).trans rfl
               have hcz33_5 : wr.cell? ⟨gb138, 5, none⟩ = some (.slice A137_5 ((rd_T33 l0_0 a1).f5).length c137_5) := (blk_cell BK138.out 5).trans rfl
               have hfz33_0 := blk_frozen BK138.out 0
               have hfz33_1 := blk_frozen BK138.out 1
               have hfz33_2 := blk_frozen BK138.out 2
               have hfz33_3 := blk_frozen BK138.out 3
               have hfz33_4 := blk_frozen BK138.out 4
               have hfz33_5 := blk_frozen BK138.out 5
               have p139 : 0 ≤ (x8_2 : Int) := of_decide_eq_true (by first | (with_reducible assumption) | assumption)
               have q139 : x8_2 < (((rd_T33 l0_0 a1).f5).length : Int) := of_decide_eq_true (by first | (with_reducible assumption) | assumption)
               obtain ⟨ad139, e139, hx139_0⟩ := Kd.at_int HR137_5.out x8_2 p139 q139
               cases e139
               replace hx139_0 := (HB.out.cell (World.block_lt_of_cell? w _ hx139_0)).trans hx139_0
               replace p139 := eq_true p139
               replace q139 := eq_true q139
               have hcz34_0 : wr.cell? ⟨gb134, 0, none⟩ = some (.slice (some ad137) l0_0.length c0_0) := (blk_cell BK134.out 0).trans rfl
               have hfz34_0 := blk_frozen BK134.out 0
               have p140 : 0 ≤ (x6_2 : Int) := of_decide_eq_true (by first | (with_reducible assumption) | assumption)
               have q140 : x6_2 < (l0_0.length : Int) := of_decide_eq_true (by first | (with_reducible assumption) | assumption)
               obtain ⟨ad140, A140_5, c140_5, e140, hx140_0, hx140_1, hx140_2, hx140_3, hx140_4, hx140_5, hl140_5, hi140_5⟩ := at_T33 HR0_0.out x6_2 p140 q140
               obtain rfl : ad137 = ad140 := (by injection e140)
               replace hx140_0 := (HB.out.cell (World.block_lt_of_cell? w _ hx140_0)).trans hx140_0
               replace hx140_1 := (HB.out.cell (World.block_lt_of_cell? w _ hx140_1)).trans hx140_1
               replace hx140_2 := (HB.out.cell (World.block_lt_of_cell? w _ hx140_2)).trans hx140_2
               replace hx140_3 := (HB.out.cell (World.block_lt_of_cell? w _ hx140_3)).trans hx140_3
               replace hx140_4 := (HB.out.cell (World.block_lt_of_cell? w _ hx140_4)).trans hx140_4
               replace hx140_5 := (HB.out.cell (World.block_lt_of_cell? w _ hx140_5)).trans hx140_5
               have HR140_5 := Aside0.mk hi140_5
               have HC140_5 := Aside0.mk hl140_5
               clear hi140_5 hl140_5
               replace p140 := eq_true p140
               replace q140 := eq_true q140
               go_wp2
               repeat (go_quiet (fail); try go_wp2)
               go_meet
               case rel => exact ⟨_, ((((rd_T33 l0_0 x6_2).f2) != x7_2)), (by first | rfl | (simp; done) | (simp [*]; done)), H', ⟨by have := HJ2.out; have := HK2.out; first | omega | exact Nat.le_refl _⟩, ⟨by (with_reducible repeat (first | refine blk_drewN ?_ _ | refine blk_drew ?_ | refine blk_alloc ?_ _)); exact BK134.out⟩, ⟨by (with_reducible repeat (first | refine blk_drewN ?_ _ | refine blk_drew ?_ | refine blk_alloc ?_ _)); exact BK138.out⟩, ⟨by repeat (first | (with_reducible first | exact HB.out | apply below_alloc | apply pw_below_drewN | apply below_drew1 | refine below_set ?_ GE134.out | refine below_set ?_ GE138.out) | exact HB.out)⟩⟩
              ·
               rw [if_neg c31] at H
               exact absurd H (by simp)
             ·
              rw [if_neg c30] at H
              exact absurd H (by simp)
           ·
            rw [if_neg c25] at H
            have c25b0 : ((rd ((rd_T33 l0_0 a1).f5) x8_2) == x6_2) = false := beq_eq_false_iff_ne.mpr c25
            have c25b1 : ((rd ((rd_T33 l0_0 a1).f5) x8_2) != x6_2) = true := bne_iff_ne.mpr c25
            have H' := Aside0.mk H
            clear H
            have hnb35 := NB138_134.out
            have hnc35 := NB134_138.out
            have hcz36_0 : wr.cell? ⟨gb138, 0, none⟩ = some (.int .i64 ((rd_T33 l0_0 a1).f0)) := (blk_cell BK138.out 0).trans rfl
            have hcz36_1 : wr.cell? ⟨gb138, 1, none⟩ = some (.int .i64 ((rd_T33 l0_0 a1).f1)) := (blk_cell BK138.out 1).trans rfl
            have hcz36_2 : wr.cell? ⟨gb138, 2, none⟩ = some (.int .i64 ((rd_T33 l0_0 a1).f2)) := (blk_cell BK138.out 2).trans rfl
            have hcz36_3 : wr.cell? ⟨gb138, 3, none⟩ = some (.int .i64 ((rd_T33 l0_0 a1).f3)) := (blk_cell BK138.out 3).trans rfl
            have hcz36_4 : wr.cell? ⟨gb138, 4, none⟩ = some (.string ((rd_T33 l0_0 a1).f4)) := (blk_cell BK138.out 4).trans rfl
            have hcz36_5 : wr.cell? ⟨gb138, 5, none⟩ = some (.slice A137_5 ((rd_T33 l0_0 a1).f5).length c137_5) := (blk_cell BK138.out 5).trans rfl
            have hfz36_0 := blk_frozen BK138.out 0
            have hfz36_1 := blk_frozen BK138.out 1
            have hfz36_2 := blk_frozen BK138.out 2
            have hfz36_3 := blk_frozen BK138.out 3
            have hfz36_4 := blk_frozen BK138.out 4
            have hfz36_5 := blk_frozen BK138.out 5
            have p139 : 0 ≤ (x8_2 : Int) := of_decide_eq_true (by first | (with_reducible assumption) | assumption)
            have q139 : x8_2 < (((rd_T33 l0_0 a1).f5).length : Int) := of_decide_eq_true (by first | (with_reducible assumption) | assumption)
            obtain ⟨ad139, e139, hx139_0⟩ := Kd.at_int HR137_5.out x8_2 p139 q139
            cases e139
            replace hx139_0 := (HB.out.cell (World.block_lt_of_cell? w _ hx139_0)).trans hx139_0
            replace p139 := eq_true p139
            replace q139 := eq_true q139
            go_wp2
            repeat (go_quiet (fail); try go_wp2)
            go_meet
            case rel => exact ⟨_, (true), (by first | rfl | (simp; done) | (simp [*]; done)), H', ⟨by have := HJ2.out; have := HK2.out; first | omega | exact Nat.le_refl _⟩, ⟨by (with_reducible repeat (first | refine blk_drewN ?_ _ | refine blk_drew ?_ | refine blk_alloc ?_ _)); exact BK134.out⟩, ⟨by (with_reducible repeat (first | refine blk_drewN ?_ _ | refine blk_drew ?_ | refine blk_alloc ?_ _)); exact BK138.out⟩, ⟨by repeat (first | (with_reducible first | exact HB.out | apply below_alloc | apply pw_below_drewN | apply below_drew1 | refine below_set ?_ GE134.out | refine below_set ?_ GE138.out) | exact HB.out)⟩⟩
          ·
           rw [if_neg c24] at H
           exact absurd H (by simp)
         case rest =>
          clear HC21
          try clear c1
          try clear p1
          try clear q1
          try clear hx1
          try clear c2
          try clear p2
          try clear c3
          try clear c4
          try clear c5
          try clear c5b0
          try clear c6
          try clear c6b0
          try clear p6
          try clear c8
          try clear c8b0
          try clear c9
          try clear c9b0
          try clear c13
          try clear p13
          try clear q13
          try clear hx13
          try clear c14
          try clear c14b0
          try clear p14
          try clear q14
          try clear hx14
          try clear c15
          try clear c15b0
          try clear c18
          try clear c20
          try clear c20b0
          try clear c22
          try clear c24
          try clear c24b0
          try clear c25
          try clear c25b0
          try clear c25b1
          try clear c26
          try clear c26b0
          try clear c27
          try clear c30
          try clear c30b0
          try clear c31
          try clear c31b0
          try clear c32
          try clear c35
          try clear hcz11_0
          try clear hcz16_0
          try clear hcz19_0
          try clear hcz19_1
          try clear hcz19_2
          try clear hcz19_3
          try clear hcz19_4
          try clear hcz19_5
          try clear hcz23_0
          try clear hcz23_1
          try clear hcz23_2
          try clear hcz23_3
          try clear hcz23_4
          try clear hcz23_5
          try clear hcz28_0
          try clear hcz28_1
          try clear hcz28_2
          try clear hcz28_3
          try clear hcz28_4
          try clear hcz28_5
          try clear hcz29_0
          try clear hcz33_0
          try clear hcz33_1
          try clear hcz33_2
          try clear hcz33_3
          try clear hcz33_4
          try clear hcz33_5
          try clear hcz34_0
          try clear hcz36_0
          try clear hcz36_1
          try clear hcz36_2
          try clear hcz36_3
          try clear hcz36_4
          try clear hcz36_5
          try clear hcz7_0
          try clear hfz11_0
          try clear hfz16_0
          try clear hfz19_0
          try clear hfz19_1
          try clear hfz19_2
          try clear hfz19_3
          try clear hfz19_4
          try clear hfz19_5
          try clear hfz23_0
          try clear hfz23_1
          try clear hfz23_2
          try clear hfz23_3
          try clear hfz23_4
          try clear hfz23_5
          try clear hfz28_0
          try clear hfz28_1
          try clear hfz28_2
          try clear hfz28_3
          try clear hfz28_4
          try clear hfz28_5
          try clear hfz29_0
          try clear hfz33_0
          try clear hfz33_1
          try clear hfz33_2
          try clear hfz33_3
          try clear hfz33_4
          try clear hfz33_5
          try clear hfz34_0
          try clear hfz36_0
          try clear hfz36_1
          try clear hfz36_2
          try clear hfz36_3
          try clear hfz36_4
          try clear hfz36_5
          try clear hfz7_0
          try clear hx135_0
          try clear hx135_1
          try clear hx135_2
          try clear hx135_3
          try clear hx135_4
          try clear hx135_5
          try clear hx137_0
          try clear hx137_1
          try clear hx137_2
          try clear hx137_3
          try clear hx137_4
          try clear hx137_5
          try clear hx139_0
          try clear hx140_0
          try clear hx140_1
          try clear hx140_2
          try clear hx140_3
          try clear hx140_4
          try clear hx140_5
          try clear p1
          try clear p13
          try clear p135
          try clear p137
          try clear p139
          try clear p140
          try clear p2
          try clear p6
          try clear q1
          try clear q13
          try clear q135
          try clear q137
          try clear q139
          try clear q140
          obtain ⟨kq, x67_20, rfl, HA, HJ20, BK134, BK138, HB⟩ := hcut
          cases kq with
          | zero => exact absurd HA.out (by simp [gramaryeref22_below.j2])
          | succ kj20 =>
           have H := HA.out
           clear HA
           simp only [gramaryeref22_below.j2] at H
           by_cases c37 : x67_20 = true
           ·
            subst c37
            have H1 : (some (-1)) = some r := by rw [if_pos rfl] at H; exact H
            clear H
            have H := H1
            clear H1
            obtain rfl := Option.some.inj H
            go_wp2
            repeat (go_quiet (fail); try go_wp2)
            go_ret
            exact ⟨by first | rfl | (simp [errW_none, errW_some] <;> rfl) | (simp [*, errW_none, errW_some] <;> rfl), by repeat (first | (with_reducible first | exact HB.out | apply below_alloc | apply pw_below_drewN | apply below_drew1 | refine below_set ?_ GE134.out | refine below_set ?_ GE138.out) | exact HB.out)⟩
           ·
            replace c37 := Bool.eq_false_iff.mpr c37
            subst c37
            have H1 : ((gramaryeref22_below.f kj20 l0_0 x6_2).bind fun t141 => (if t141 < 0 then (some (-1)) else (if 0 ≤ x6_2 then (if x6_2 < (l0_0.length : Int) then (gramaryeref22_below.l0 kj20 a1 (wrap64 (x6_2 + t141)) ((rd_T33 l0_0 x6_2).f3) (wrap64 (x8_2 + 1)) l0_0 ((rd_T33 l0_0 a1).f0) ((rd_T33 l0_0 a1).f1) ((rd_T33 l0_0 a1).f2) ((rd_T33 l0_0 a1).f3) ((rd_T33 l0_0 a1).f4) ((rd_T33 l0_0 a1).f5)) else (none)) else (none)))) = some r := by rw [if_neg (show ¬ (false = true) by decide)] at H; exact H
            clear H
            have H := H1
            clear H1
            replace H := Option.bind_eq_some_iff.mp H
            obtain ⟨t141, A380, H⟩ := H
            replace H : (if t141 < 0 then (some (-1)) else (if 0 ≤ x6_2 then (if x6_2 < (l0_0.length : Int) then (gramaryeref22_below.l0 kj20 a1 (wrap64 (x6_2 + t141)) ((rd_T33 l0_0 x6_2).f3) (wrap64 (x8_2 + 1)) l0_0 ((rd_T33 l0_0 a1).f0) ((rd_T33 l0_0 a1).f1) ((rd_T33 l0_0 a1).f2) ((rd_T33 l0_0 a1).f3) ((rd_T33 l0_0 a1).f4) ((rd_T33 l0_0 a1).f5)) else (none)) else (none))) = some r := H
            have A38 := Aside0.mk A380
            clear A380
            by_cases c39 : t141 < 0
            ·
             rw [if_pos c39] at H
             have c39b0 : decide (t141 < 0) = true := decide_eq_true c39
             clear c39
             obtain rfl := Option.some.inj H
             have hnb40 := NB134_138.out
             have hnc40 := NB138_134.out
             have hcz41_0 : wc.cell? ⟨gb134, 0, none⟩ = some (.slice (some ad137) l0_0.length c0_0) := (blk_cell BK134.out 0).trans rfl
             have hfz41_0 := blk_frozen BK134.out 0
             go_wp2_with (first | (go_at_call 46; (with_reducible refine (ih kj20 (by have := HJ2.out; have := HK2.out; have := HJ20.out; omega) _ _ l0_0 x6_2 t141 _ ?side1 ?side2 A38.out).mono ?_); (case side1 => repeat (first | exact (Kd.C_below HR0_0.out HB.out) | (with_reducible refine Kd.C_alloc ?_ _) | (with_reducible refine Kd.C_drewN ?_ _) | (with_reducible refine Kd.C_drew ?_))); (case side2 => exact HC0_0.out); rintro e w42 ⟨rfl, hb⟩; have n0_ := Aside0.mk (blk_below (g := gb134) (o := .cells #[.slice (some ad137) l0_0.length c0_0] 24 (0, 0)) (by (with_reducible repeat (first | refine blk_drewN ?_ _ | refine blk_drew ?_ | refine blk_alloc ?_ _)); exact BK134.out) hb); have n1_ := Aside0.mk (blk_below (g := gb138) (o := .cells #[.int .i64 ((rd_T33 l0_0 a1).f0), .int .i64 ((rd_T33 l0_0 a1).f1), .int .i64 ((rd_T33 l0_0 a1).f2), .int .i64 ((rd_T33 l0_0 a1).f3), .string ((rd_T33 l0_0 a1).f4), .slice A137_5 ((rd_T33 l0_0 a1).f5).length c137_5] 33 (0, 0)) (by (with_reducible repeat (first | refine blk_drewN ?_ _ | refine blk_drew ?_ | refine blk_alloc ?_ _)); exact BK138.out) hb); have n2_ := Aside0.mk (below_step (by repeat (first | (with_reducible first | exact HB.out | apply below_alloc | apply pw_below_drewN | apply below_drew1 | refine below_set ?_ GE134.out | refine below_set ?_ GE138.out) | exact HB.out)) hb); clear BK134; clear BK138; clear HB; have BK134 := n0_; have BK138 := n1_; have HB := n2_; clear n0_ n1_ n2_; (try clear hb); (try clear hb2); (try clear hk); (try clear hi)))
             repeat (go_quiet (first | (go_at_call 46; (with_reducible refine (ih kj20 (by have := HJ2.out; have := HK2.out; have := HJ20.out; omega) _ _ l0_0 x6_2 t141 _ ?side1 ?side2 A38.out).mono ?_); (case side1 => repeat (first | exact (Kd.C_below HR0_0.out HB.out) | (with_reducible refine Kd.C_alloc ?_ _) | (with_reducible refine Kd.C_drewN ?_ _) | (with_reducible refine Kd.C_drew ?_))); (case side2 => exact HC0_0.out); rintro e w42 ⟨rfl, hb⟩; have n0_ := Aside0.mk (blk_below (g := gb134) (o := .cells #[.slice (some ad137) l0_0.length c0_0] 24 (0, 0)) (by (with_reducible repeat (first | refine blk_drewN ?_ _ | refine blk_drew ?_ | refine blk_alloc ?_ _)); exact BK134.out) hb); have n1_ := Aside0.mk (blk_below (g := gb138) (o := .cells #[.int .i64 ((rd_T33 l0_0 a1).f0), .int .i64 ((rd_T33 l0_0 a1).f1), .int .i64 ((rd_T33 l0_0 a1).f2), .int .i64 ((rd_T33 l0_0 a1).f3), .string ((rd_T33 l0_0 a1).f4), .slice A137_5 ((rd_T33 l0_0 a1).f5).length c137_5] 33 (0, 0)) (by (with_reducible repeat (first | refine blk_drewN ?_ _ | refine blk_drew ?_ | refine blk_alloc ?_ _)); exact BK138.out) hb); have n2_ := Aside0.mk (below_step (by repeat (first | (with_reducible first | exact HB.out | apply below_alloc | apply pw_below_drewN | apply below_drew1 | refine below_set ?_ GE134.out | refine below_set ?_ GE138.out) | exact HB.out)) hb); clear BK134; clear BK138; clear HB; have BK134 := n0_; have BK138 := n1_; have HB := n2_; clear n0_ n1_ n2_; (try clear hb); (try clear hb2); (try clear hk); (try clear hi))); try go_wp2_with (first | (go_at_call 46; (with_reducible refine (ih kj20 (by have := HJ2.out; have := HK2.out; have := HJ20.out; omega) _ _ l0_0 x6_2 t141 _ ?side1 ?side2 A38.out).mono ?_); (case side1 => repeat (first | exact (Kd.C_below HR0_0.out HB.out) | (with_reducible refine Kd.C_alloc ?_ _) | (with_reducible refine Kd.C_drewN ?_ _) | (with_reducible refine Kd.C_drew ?_))); (case side2 => exact HC0_0.out); rintro e w42 ⟨rfl, hb⟩; have n0_ := Aside0.mk (blk_below (g := gb134) (o := .cells #[.slice (some ad137) l0_0.length c0_0] 24 (0, 0)) (by (with_reducible repeat (first | refine blk_drewN ?_ _ | refine blk_drew ?_ | refine blk_alloc ?_ _)); exact BK134.out) hb); have n1_ := Aside0.mk (blk_below (g := gb138) (o := .cells #[.int .i64 ((rd_T33 l0_0 a1).f0), .int .i64 ((rd_T33 l0_0 a1).f1), .int .i64 ((rd_T33 l0_0 a1).f2), .int .i64 ((rd_T33 l0_0 a1).f3), .string ((rd_T33 l0_0 a1).f4), .slice A137_5 ((rd_T33 l0_0 a1).f5).length c137_5] 33 (0, 0)) (by (with_reducible repeat (first | refine blk_drewN ?_ _ | refine blk_drew ?_ | refine blk_alloc ?_ _)); exact BK138.out) hb); have n2_ := Aside0.mk (below_step (by repeat (first | (with_reducible first | exact HB.out | apply below_alloc | apply pw_below_drewN | apply below_drew1 | refine below_set ?_ GE134.out | refine below_set ?_ GE138.out) | exact HB.out)) hb); clear BK134; clear BK138; clear HB; have BK134 := n0_; have BK138 := n1_; have HB := n2_; clear n0_ n1_ n2_; (try clear hb); (try clear hb2); (try clear hk); (try clear hi))))
             go_ret
             exact ⟨by first | rfl | (simp [errW_none, errW_some] <;> rfl) | (simp [*, errW_none, errW_some] <;> rfl), by repeat (first | (with_reducible first | exact HB.out | apply below_alloc | apply pw_below_drewN | apply below_drew1 | refine below_set ?_ GE134.out | refine below_set ?_ GE138.out) | exact HB.out)⟩
            ·
             rw [if_neg c39] at H
             have c39b0 : decide (t141 < 0) = false := decide_eq_false c39
             clear c39
             by_cases c43 : 0 ≤ x6_2
             ·
              rw [if_pos c43] at H
              have c43b0 : decide (0 ≤ x6_2) = true := decide_eq_true c43
              clear c43
              by_cases c44 : x6_2 < (l0_0.length : Int)
              ·
               rw [if_pos c44] at H
               have c44b0 : decide (x6_2 < (l0_0.length : Int)) = true := decide_eq_true c44
               clear c44
               have H' := Aside0.mk H
               clear H
               have hnb45 := NB134_138.out
               have hnc45 := NB138_134.out
               have hcz46_0 : wc.cell? ⟨gb134, 0, none⟩ = some (.slice (some ad137) l0_0.length c0_0) := (blk_cell BK134.out 0).trans rfl
               have hfz46_0 := blk_frozen BK134.out 0
               go_wp2_with (first | (go_at_call 46; (with_reducible refine (ih kj20 (by have := HJ2.out; have := HK2.out; have := HJ20.out; omega) _ _ l0_0 x6_2 t141 _ ?side1 ?side2 A38.out).mono ?_); (case side1 => repeat (first | exact (Kd.C_below HR0_0.out HB.out) | (with_reducible refine Kd.C_alloc ?_ _) | (with_reducible refine Kd.C_drewN ?_ _) | (with_reducible refine Kd.C_drew ?_))); (case side2 => exact HC0_0.out); rintro e w47 ⟨rfl, hb⟩; have n0_ := Aside0.mk (blk_below (g := gb134) (o := .cells #[.slice (some ad137) l0_0.length c0_0] 24 (0, 0)) (by (with_reducible repeat (first | refine blk_drewN ?_ _ | refine blk_drew ?_ | refine blk_alloc ?_ _)); exact BK134.out) hb); have n1_ := Aside0.mk (blk_below (g := gb138) (o := .cells #[.int .i64 ((rd_T33 l0_0 a1).f0), .int .i64 ((rd_T33 l0_0 a1).f1), .int .i64 ((rd_T33 l0_0 a1).f2), .int .i64 ((rd_T33 l0_0 a1).f3), .string ((rd_T33 l0_0 a1).f4), .slice A137_5 ((rd_T33 l0_0 a1).f5).length c137_5] 33 (0, 0)) (by (with_reducible repeat (first | refine blk_drewN ?_ _ | refine blk_drew ?_ | refine blk_alloc ?_ _)); exact BK138.out) hb); have n2_ := Aside0.mk (below_step (by repeat (first | (with_reducible first | exact HB.out | apply below_alloc | apply pw_below_drewN | apply below_drew1 | refine below_set ?_ GE134.out | refine below_set ?_ GE138.out) | exact HB.out)) hb); clear BK134; clear BK138; clear HB; have BK134 := n0_; have BK138 := n1_; have HB := n2_; clear n0_ n1_ n2_; (try clear hb); (try clear hb2); (try clear hk); (try clear hi); have hcz48_0 : w47.cell? ⟨gb134, 0, none⟩ = some (.slice (some ad137) l0_0.length c0_0) := (blk_cell BK134.out 0).trans rfl; have hfz48_0 := blk_frozen BK134.out 0; have p142 : 0 ≤ (x6_2 : Int) := of_decide_eq_true (by first | (with_reducible assumption) | assumption); have q142 : x6_2 < (l0_0.length : Int) := of_decide_eq_true (by first | (with_reducible assumption) | assumption); obtain ⟨ad142, A142_5, c142_5, e142, hx142_0, hx142_1, hx142_2, hx142_3, hx142_4, hx142_5, hl142_5, hi142_5⟩ := at_T33 HR0_0.out x6_2 p142 q142; obtain rfl : ad137 = ad142 := (by injection e142); replace hx142_0 := (HB.out.cell (World.block_lt_of_cell? w _ hx142_0)).trans hx142_0; replace hx142_1 := (HB.out.cell (World.block_lt_of_cell? w _ hx142_1)).trans hx142_1; replace hx142_2 := (HB.out.cell (World.block_lt_of_cell? w _ hx142_2)).trans hx142_2; replace hx142_3 := (HB.out.cell (World.block_lt_of_cell? w _ hx142_3)).trans hx142_3; replace hx142_4 := (HB.out.cell (World.block_lt_of_cell? w _ hx142_4)).trans hx142_4; replace hx142_5 := (HB.out.cell (World.block_lt_of_cell? w _ hx142_5)).trans hx142_5; have HR142_5 := Aside0.mk hi142_5; have HC142_5 := Aside0.mk hl142_5; clear hi142_5 hl142_5; replace p142 := eq_true p142; replace q142 := eq_true q142))
               repeat (go_quiet (first | (go_at_call 46; (with_reducible refine (ih kj20 (by have := HJ2.out; have := HK2.out; have := HJ20.out; omega) _ _ l0_0 x6_2 t141 _ ?side1 ?side2 A38.out).mono ?_); (case side1 => repeat (first | exact (Kd.C_below HR0_0.out HB.out) | (with_reducible refine Kd.C_alloc ?_ _) | (with_reducible refine Kd.C_drewN ?_ _) | (with_reducible refine Kd.C_drew ?_))); (case side2 => exact HC0_0.out); rintro e w47 ⟨rfl, hb⟩; have n0_ := Aside0.mk (blk_below (g := gb134) (o := .cells #[.slice (some ad137) l0_0.length c0_0] 24 (0, 0)) (by (with_reducible repeat (first | refine blk_drewN ?_ _ | refine blk_drew ?_ | refine blk_alloc ?_ _)); exact BK134.out) hb); have n1_ := Aside0.mk (blk_below (g := gb138) (o := .cells #[.int .i64 ((rd_T33 l0_0 a1).f0), .int .i64 ((rd_T33 l0_0 a1).f1), .int .i64 ((rd_T33 l0_0 a1).f2), .int .i64 ((rd_T33 l0_0 a1).f3), .string ((rd_T33 l0_0 a1).f4), .slice A137_5 ((rd_T33 l0_0 a1).f5).length c137_5] 33 (0, 0)) (by (with_reducible repeat (first | refine blk_drewN ?_ _ | refine blk_drew ?_ | refine blk_alloc ?_ _)); exact BK138.out) hb); have n2_ := Aside0.mk (below_step (by repeat (first | (with_reducible first | exact HB.out | apply below_alloc | apply pw_below_drewN | apply below_drew1 | refine below_set ?_ GE134.out | refine below_set ?_ GE138.out) | exact HB.out)) hb); clear BK134; clear BK138; clear HB; have BK134 := n0_; have BK138 := n1_; have HB := n2_; clear n0_ n1_ n2_; (try clear hb); (try clear hb2); (try clear hk); (try clear hi); have hcz48_0 : w47.cell? ⟨gb134, 0, none⟩ = some (.slice (some ad137) l0_0.length c0_0) := (blk_cell BK134.out 0).trans rfl; have hfz48_0 := blk_frozen BK134.out 0; have p142 : 0 ≤ (x6_2 : Int) := of_decide_eq_true (by first | (with_reducible assumption) | assumption); have q142 : x6_2 < (l0_0.length : Int) := of_decide_eq_true (by first | (with_reducible assumption) | assumption); obtain ⟨ad142, A142_5, c142_5, e142, hx142_0, hx142_1, hx142_2, hx142_3, hx142_4, hx142_5, hl142_5, hi142_5⟩ := at_T33 HR0_0.out x6_2 p142 q142; obtain rfl : ad137 = ad142 := (by injection e142); replace hx142_0 := (HB.out.cell (World.block_lt_of_cell? w _ hx142_0)).trans hx142_0; replace hx142_1 := (HB.out.cell (World.block_lt_of_cell? w _ hx142_1)).trans hx142_1; replace hx142_2 := (HB.out.cell (World.block_lt_of_cell? w _ hx142_2)).trans hx142_2; replace hx142_3 := (HB.out.cell (World.block_lt_of_cell? w _ hx142_3)).trans hx142_3; replace hx142_4 := (HB.out.cell (World.block_lt_of_cell? w _ hx142_4)).trans hx142_4; replace hx142_5 := (HB.out.cell (World.block_lt_of_cell? w _ hx142_5)).trans hx142_5; have HR142_5 := Aside0.mk hi142_5; have HC142_5 := Aside0.mk hl142_5; clear hi142_5 hl142_5; replace p142 := eq_true p142; replace q142 := eq_true q142)); try go_wp2_with (first | (go_at_call 46; (with_reducible refine (ih kj20 (by have := HJ2.out; have := HK2.out; have := HJ20.out; omega) _ _ l0_0 x6_2 t141 _ ?side1 ?side2 A38.out).mono ?_); (case side1 => repeat (first | exact (Kd.C_below HR0_0.out HB.out) | (with_reducible refine Kd.C_alloc ?_ _) | (with_reducible refine Kd.C_drewN ?_ _) | (with_reducible refine Kd.C_drew ?_))); (case side2 => exact HC0_0.out); rintro e w47 ⟨rfl, hb⟩; have n0_ := Aside0.mk (blk_below (g := gb134) (o := .cells #[.slice (some ad137) l0_0.length c0_0] 24 (0, 0)) (by (with_reducible repeat (first | refine blk_drewN ?_ _ | refine blk_drew ?_ | refine blk_alloc ?_ _)); exact BK134.out) hb); have n1_ := Aside0.mk (blk_below (g := gb138) (o := .cells #[.int .i64 ((rd_T33 l0_0 a1).f0), .int .i64 ((rd_T33 l0_0 a1).f1), .int .i64 ((rd_T33 l0_0 a1).f2), .int .i64 ((rd_T33 l0_0 a1).f3), .string ((rd_T33 l0_0 a1).f4), .slice A137_5 ((rd_T33 l0_0 a1).f5).length c137_5] 33 (0, 0)) (by (with_reducible repeat (first | refine blk_drewN ?_ _ | refine blk_drew ?_ | refine blk_alloc ?_ _)); exact BK138.out) hb); have n2_ := Aside0.mk (below_step (by repeat (first | (with_reducible first | exact HB.out | apply below_alloc | apply pw_below_drewN | apply below_drew1 | refine below_set ?_ GE134.out | refine below_set ?_ GE138.out) | exact HB.out)) hb); clear BK134; clear BK138; clear HB; have BK134 := n0_; have BK138 := n1_; have HB := n2_; clear n0_ n1_ n2_; (try clear hb); (try clear hb2); (try clear hk); (try clear hi); have hcz48_0 : w47.cell? ⟨gb134, 0, none⟩ = some (.slice (some ad137) l0_0.length c0_0) := (blk_cell BK134.out 0).trans rfl; have hfz48_0 := blk_frozen BK134.out 0; have p142 : 0 ≤ (x6_2 : Int) := of_decide_eq_true (by first | (with_reducible assumption) | assumption); have q142 : x6_2 < (l0_0.length : Int) := of_decide_eq_true (by first | (with_reducible assumption) | assumption); obtain ⟨ad142, A142_5, c142_5, e142, hx142_0, hx142_1, hx142_2, hx142_3, hx142_4, hx142_5, hl142_5, hi142_5⟩ := at_T33 HR0_0.out x6_2 p142 q142; obtain rfl : ad137 = ad142 := (by injection e142); replace hx142_0 := (HB.out.cell (World.block_lt_of_cell? w _ hx142_0)).trans hx142_0; replace hx142_1 := (HB.out.cell (World.block_lt_of_cell? w _ hx142_1)).trans hx142_1; replace hx142_2 := (HB.out.cell (World.block_lt_of_cell? w _ hx142_2)).trans hx142_2; replace hx142_3 := (HB.out.cell (World.block_lt_of_cell? w _ hx142_3)).trans hx142_3; replace hx142_4 := (HB.out.cell (World.block_lt_of_cell? w _ hx142_4)).trans hx142_4; replace hx142_5 := (HB.out.cell (World.block_lt_of_cell? w _ hx142_5)).trans hx142_5; have HR142_5 := Aside0.mk hi142_5; have HC142_5 := Aside0.mk hl142_5; clear hi142_5 hl142_5; replace p142 := eq_true p142; replace q142 := eq_true q142)))
               go_roundg kj20
               case measure => have := HJ2.out; have := HK2.out; have := HJ20.out; omega
               case rel => exact ⟨(wrap64 (x6_2 + t141)), ((rd_T33 l0_0 x6_2).f3), (wrap64 (x8_2 + 1)), (by first | rfl | (simp; done) | (simp [*]; done)), (by first | rfl | (simp; done) | (simp [*]; done)), (by first | rfl | (simp; done) | (simp [*]; done)), H', ⟨by have := HJ2.out; have := HK2.out; have := HJ20.out; omega⟩, ⟨by (with_reducible repeat (first | refine blk_drewN ?_ _ | refine blk_drew ?_ | refine blk_alloc ?_ _)); exact BK134.out⟩, ⟨by (with_reducible repeat (first | refine blk_drewN ?_ _ | refine blk_drew ?_ | refine blk_alloc ?_ _)); exact BK138.out⟩, ⟨by repeat (first | (with_reducible first | exact HB.out | apply below_alloc | apply pw_below_drewN | apply below_drew1 | refine below_set ?_ GE134.out | refine below_set ?_ GE138.out) | exact HB.out)⟩⟩
              ·
               rw [if_neg c44] at H
               exact absurd H (by simp)
             ·
              rw [if_neg c43] at H
              exact absurd H (by simp)
        ·
         rw [if_neg c20] at H
         have c20b0 : decide (x8_2 < (((rd_T33 l0_0 a1).f5).length : Int)) = false := decide_eq_false c20
         clear c20
         by_cases c49 : x7_2 = ((rd_T33 l0_0 a1).f3)
         ·
          rw [if_pos c49] at H
          have c49b0 : (x7_2 == ((rd_T33 l0_0 a1).f3)) = true := beq_iff_eq.mpr c49
          have c49b1 : (x7_2 != ((rd_T33 l0_0 a1).f3)) = false := bne_eq_false_iff_eq.mpr c49
          clear c49
          obtain rfl := Option.some.inj H
          have hnb50 := NB138_134.out
          have hnc50 := NB134_138.out
          have hcz51_0 : wr.cell? ⟨gb138, 0, none⟩ = some (.int .i64 ((rd_T33 l0_0 a1).f0)) := (blk_cell BK138.out 0).trans rfl
          have hcz51_1 : wr.cell? ⟨gb138, 1, none⟩ = some (.int .i64 ((rd_T33 l0_0 a1).f1)) := (blk_cell BK138.out 1).trans rfl
          have hcz51_2 : wr.cell? ⟨gb138, 2, none⟩ = some (.int .i64 ((rd_T33 l0_0 a1).f2)) := (blk_cell BK138.out 2).trans rfl
          have hcz51_3 : wr.cell? ⟨gb138, 3, none⟩ = some (.int .i64 ((rd_T33 l0_0 a1).f3)) := (blk_cell BK138.out 3).trans rfl
          have hcz51_4 : wr.cell? ⟨gb138, 4, none⟩ = some (.string ((rd_T33 l0_0 a1).f4)) := (blk_cell BK138.out 4).trans rfl
          have hcz51_5 : wr.cell? ⟨gb138, 5, none⟩ = some (.slice A137_5 ((rd_T33 l0_0 a1).f5).length c137_5) := (blk_cell BK138.out 5).trans rfl
          have hfz51_0 := blk_frozen BK138.out 0
          have hfz51_1 := blk_frozen BK138.out 1
          have hfz51_2 := blk_frozen BK138.out 2
          have hfz51_3 := blk_frozen BK138.out 3
          have hfz51_4 := blk_frozen BK138.out 4
          have hfz51_5 := blk_frozen BK138.out 5
          go_wp2
          repeat (go_quiet (fail); try go_wp2)
          go_ret
          exact ⟨by first | rfl | (simp [errW_none, errW_some] <;> rfl) | (simp [*, errW_none, errW_some] <;> rfl), by repeat (first | (with_reducible first | exact HB.out | apply below_alloc | apply pw_below_drewN | apply below_drew1 | refine below_set ?_ GE134.out | refine below_set ?_ GE138.out) | exact HB.out)⟩
         ·
          rw [if_neg c49] at H
          have c49b0 : (x7_2 == ((rd_T33 l0_0 a1).f3)) = false := beq_eq_false_iff_ne.mpr c49
          have c49b1 : (x7_2 != ((rd_T33 l0_0 a1).f3)) = true := bne_iff_ne.mpr c49
          by_cases c52 : (((rd_T33 l0_0 a1).f5).length : Int) > 0
          ·
           rw [if_pos c52] at H
           have c52b0 : decide (0 < (((rd_T33 l0_0 a1).f5).length : Int)) = true := decide_eq_true c52
           have c52b1 : decide (0 < ((rd_T33 l0_0 a1).f5).length) = true := decide_eq_true (by omega)
           clear c52
           obtain rfl := Option.some.inj H
           have hnb53 := NB138_134.out
           have hnc53 := NB134_138.out
           have hcz54_0 : wr.cell? ⟨gb138, 0, none⟩ = some (.int .i64 ((rd_T33 l0_0 a1).f0)) := (blk_cell BK138.out 0).trans rfl
           have hcz54_1 : wr.cell? ⟨gb138, 1, none⟩ = some (.int .i64 ((rd_T33 l0_0 a1).f1)) := (blk_cell BK138.out 1).trans rfl
           have hcz54_2 : wr.cell? ⟨gb138, 2, none⟩ = some (.int .i64 ((rd_T33 l0_0 a1).f2)) := (blk_cell BK138.out 2).trans rfl
           have hcz54_3 : wr.cell? ⟨gb138, 3, none⟩ = some (.int .i64 ((rd_T33 l0_0 a1).f3)) := (blk_cell BK138.out 3).trans rfl
           have hcz54_4 : wr.cell? ⟨gb138, 4, none⟩ = some (.string ((rd_T33 l0_0 a1).f4)) := (blk_cell BK138.out 4).trans rfl
           have hcz54_5 : wr.cell? ⟨gb138, 5, none⟩ = some (.slice A137_5 ((rd_T33 l0_0 a1).f5).length c137_5) := (blk_cell BK138.out 5).trans rfl
           have hfz54_0 := blk_frozen BK138.out 0
           have hfz54_1 := blk_frozen BK138.out 1
           have hfz54_2 := blk_frozen BK138.out 2
           have hfz54_3 := blk_frozen BK138.out 3
           have hfz54_4 := blk_frozen BK138.out 4
           have hfz54_5 := blk_frozen BK138.out 5
           go_wp2
           repeat (go_quiet (fail); try go_wp2)
           go_ret
           exact ⟨by first | rfl | (simp [errW_none, errW_some] <;> rfl) | (simp [*, errW_none, errW_some] <;> rfl), by repeat (first | (with_reducible first | exact HB.out | apply below_alloc | apply pw_below_drewN | apply below_drew1 | refine below_set ?_ GE134.out | refine below_set ?_ GE138.out) | exact HB.out)⟩
          ·
           rw [if_neg c52] at H
           have c52b0 : decide (0 < (((rd_T33 l0_0 a1).f5).length : Int)) = false := decide_eq_false c52
           have c52b1 : decide (0 < ((rd_T33 l0_0 a1).f5).length) = false := decide_eq_false (by omega)
           clear c52
           obtain rfl := Option.some.inj H
           have hnb55 := NB138_134.out
           have hnc55 := NB134_138.out
           have hcz56_0 : wr.cell? ⟨gb138, 0, none⟩ = some (.int .i64 ((rd_T33 l0_0 a1).f0)) := (blk_cell BK138.out 0).trans rfl
           have hcz56_1 : wr.cell? ⟨gb138, 1, none⟩ = some (.int .i64 ((rd_T33 l0_0 a1).f1)) := (blk_cell BK138.out 1).trans rfl
           have hcz56_2 : wr.cell? ⟨gb138, 2, none⟩ = some (.int .i64 ((rd_T33 l0_0 a1).f2)) := (blk_cell BK138.out 2).trans rfl
           have hcz56_3 : wr.cell? ⟨gb138, 3, none⟩ = some (.int .i64 ((rd_T33 l0_0 a1).f3)) := (blk_cell BK138.out 3).trans rfl
           have hcz56_4 : wr.cell? ⟨gb138, 4, none⟩ = some (.string ((rd_T33 l0_0 a1).f4)) := (blk_cell BK138.out 4).trans rfl
           have hcz56_5 : wr.cell? ⟨gb138, 5, none⟩ = some (.slice A137_5 ((rd_T33 l0_0 a1).f5).length c137_5) := (blk_cell BK138.out 5).trans rfl
           have hfz56_0 := blk_frozen BK138.out 0
           have hfz56_1 := blk_frozen BK138.out 1
           have hfz56_2 := blk_frozen BK138.out 2
           have hfz56_3 := blk_frozen BK138.out 3
           have hfz56_4 := blk_frozen BK138.out 4
           have hfz56_5 := blk_frozen BK138.out 5
           go_wp2
           repeat (go_quiet (fail); try go_wp2)
           go_ret
           exact ⟨by first | rfl | (simp [errW_none, errW_some] <;> rfl) | (simp [*, errW_none, errW_some] <;> rfl), by repeat (first | (with_reducible first | exact HB.out | apply below_alloc | apply pw_below_drewN | apply below_drew1 | refine below_set ?_ GE134.out | refine below_set ?_ GE138.out) | exact HB.out)⟩
     ·
      rw [if_neg c15] at H
      exact absurd H (by simp)
    ·
     rw [if_neg c14] at H
     exact absurd H (by simp)
end Go.Proofs.YtafbmlhgcmlmpaaDoor.PT
