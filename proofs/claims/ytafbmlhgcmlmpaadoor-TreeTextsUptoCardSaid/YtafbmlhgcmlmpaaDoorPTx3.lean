-- Written by this session's turned printer (wip/tools/oprint.py, op.sh), out of the translation. Lean checks it.
import Derived.Test.YtafbmlhgcmlmpaaDoorPTx0
import Derived.Test.YtafbmlhgcmlmpaaDoorPTx2
namespace Go.Proofs.YtafbmlhgcmlmpaaDoor.PT
open Go.RowKit Go.Proofs.YtafbmlhgcmlmpaaDoorW.PrintWords Go.Proofs.YtafbmlhgcmlmpaaDoorW.PrintLast Go.Proofs.YtafbmlhgcmlmpaaDoorW.PrintMore
attribute [local go_sem] max2_int min2_int max_two min_two max_three min_three max_four min_four   -- for this text's walks alone
set_option linter.unusedVariables false
set_option linter.unusedSimpArgs false
def gramaryeref22_right.j0 : Nat → Bool → Int → Int → Int → Int → ByteArray → List Int → Option (Bool)
 | 0, _, _, _, _, _, _, _ => none
 | k + 1, x44, x133000, x133001, x133002, x133003, x133004, x133005 => if x44 = true then (some false) else (if x133000 = 1 then (if x133001 ≥ 0 then (if (x133005.length : Int) > 0 then (some true) else (some (x133002 == x133003))) else (some false)) else (if x133000 = 2 then (if x133001 ≥ 1 then (some ((wrap64 (x133003 - x133002)) == 1)) else (some false)) else (if x133000 = 3 then (if x133001 = 0 then (if x133004.toList = ([] : List UInt8) then (some (decide (x133002 < x133003))) else (some false)) else (some false)) else (if x133000 = 4 then (if x133001 ≥ 1 then (some (x133002 == x133003)) else (some false)) else (if x133001 ≥ 0 then (some (x133002 == x133003)) else (some false))))))
def gramaryeref22_right.f (k : Nat) (a0_0 : Int) (a0_1 : Int) (a0_2 : Int) (a0_3 : Int) (a0_4 : ByteArray) (l0_5 : List Int) : Option (Bool) := if a0_0 < 1 then (gramaryeref22_right.j0 k true a0_0 a0_1 a0_2 a0_3 a0_4 l0_5) else (if a0_0 > 5 then (gramaryeref22_right.j0 k true a0_0 a0_1 a0_2 a0_3 a0_4 l0_5) else (if a0_2 < 0 then (gramaryeref22_right.j0 k true a0_0 a0_1 a0_2 a0_3 a0_4 l0_5) else (if a0_3 < a0_2 then (gramaryeref22_right.j0 k true a0_0 a0_1 a0_2 a0_3 a0_4 l0_5) else (if a0_4.toList = ([] : List UInt8) then (if a0_0 = 1 then (gramaryeref22_right.j0 k false a0_0 a0_1 a0_2 a0_3 a0_4 l0_5) else (gramaryeref22_right.j0 k (decide ((l0_5.length : Int) > 0)) a0_0 a0_1 a0_2 a0_3 a0_4 l0_5)) else ((gramaryeref02_Name.f k a0_4).bind fun t133 => (if t133 = true then (if a0_0 = 1 then (gramaryeref22_right.j0 k false a0_0 a0_1 a0_2 a0_3 a0_4 l0_5) else (gramaryeref22_right.j0 k (decide ((l0_5.length : Int) > 0)) a0_0 a0_1 a0_2 a0_3 a0_4 l0_5)) else (gramaryeref22_right.j0 k true a0_0 a0_1 a0_2 a0_3 a0_4 l0_5)))))))
theorem gramaryeref22_right.mono_l : ∀ k, (∀ y0 y1 y2 y3 y4 y5 y6, LeO (gramaryeref22_right.j0 k y0 y1 y2 y3 y4 y5 y6) (gramaryeref22_right.j0 (k + 1) y0 y1 y2 y3 y4 y5 y6))
 | 0 => fun _ _ _ _ _ _ _ r h => by simp [gramaryeref22_right.j0] at h
 | k + 1 => by
  have ih0 := gramaryeref22_right.mono_l k
  ·
   intro y0 y1 y2 y3 y4 y5 y6
   unfold gramaryeref22_right.j0
   repeat' first
   | (with_reducible exact ih0 _ _ _ _ _ _ _)
   | (with_reducible exact gramaryeref02_Name.mono _ _)
   | (with_reducible exact LeO.refl _)
   | (with_reducible exact LeO.none _)
   | (with_reducible refine LeO.ite ?_ ?_)
   | (with_reducible refine LeO.bind ?_ (fun _ => ?_))
   | exact ih0 _ _ _ _ _ _ _
   | exact gramaryeref02_Name.mono _ _
   | exact LeO.none _
   | refine LeO.ite ?_ ?_
   | refine LeO.bind ?_ (fun _ => ?_)
theorem gramaryeref22_right.mono : ∀ a0 a1 a2 a3 a4 a5 k, LeO (gramaryeref22_right.f k a0 a1 a2 a3 a4 a5) (gramaryeref22_right.f (k + 1) a0 a1 a2 a3 a4 a5) := by
 intro a0 a1 a2 a3 a4 a5 k
 have ih0 := gramaryeref22_right.mono_l k
 unfold gramaryeref22_right.f
 repeat' first
   | (with_reducible exact ih0 _ _ _ _ _ _ _)
   | (with_reducible exact gramaryeref02_Name.mono _ _)
   | (with_reducible exact LeO.refl _)
   | (with_reducible exact LeO.none _)
   | (with_reducible refine LeO.ite ?_ ?_)
   | (with_reducible refine LeO.bind ?_ (fun _ => ?_))
   | exact ih0 _ _ _ _ _ _ _
   | exact gramaryeref02_Name.mono _ _
   | exact LeO.none _
   | refine LeO.ite ?_ ?_
   | refine LeO.bind ?_ (fun _ => ?_)
set_option maxHeartbeats 8000000 in
set_option maxRecDepth 100000 in
theorem gramaryeref22_right.calls (k : Nat) (a0_0 : Int) (a0_1 : Int) (a0_2 : Int) (a0_3 : Int) (a0_4 : ByteArray) (A0_5 : Option Addr) (c0_5 : Nat) (l0_5 : List Int) (r : Bool) (w : World) (hr0_5 : Kd.C (Kd.int .i64) w A0_5 l0_5.length l0_5) (hc0_5 : l0_5.length ≤ c0_5) (h : gramaryeref22_right.f k a0_0 a0_1 a0_2 a0_3 a0_4 l0_5 = some r) :
  Calls Tryd.prog 77 #[.agg #[.int .i64 a0_0, .int .i64 a0_1, .int .i64 a0_2, .int .i64 a0_3, .string a0_4, .slice A0_5 l0_5.length c0_5]] w fun e w' => e = .returned (.bool r) ∧ Below w.heap.size w w' := by
 have hu33 := Tryd.underlying33
 have HR0_5 := Aside0.mk hr0_5
 have HC0_5 := Aside0.mk hc0_5
 clear hr0_5 hc0_5
 have HB := Aside0.mk (Below.refl w.heap.size w)
 have H : (if a0_0 < 1 then (gramaryeref22_right.j0 k true a0_0 a0_1 a0_2 a0_3 a0_4 l0_5) else (if a0_0 > 5 then (gramaryeref22_right.j0 k true a0_0 a0_1 a0_2 a0_3 a0_4 l0_5) else (if a0_2 < 0 then (gramaryeref22_right.j0 k true a0_0 a0_1 a0_2 a0_3 a0_4 l0_5) else (if a0_3 < a0_2 then (gramaryeref22_right.j0 k true a0_0 a0_1 a0_2 a0_3 a0_4 l0_5) else (if a0_4.toList = ([] : List UInt8) then (if a0_0 = 1 then (gramaryeref22_right.j0 k false a0_0 a0_1 a0_2 a0_3 a0_4 l0_5) else (gramaryeref22_right.j0 k (decide ((l0_5.length : Int) > 0)) a0_0 a0_1 a0_2 a0_3 a0_4 l0_5)) else ((gramaryeref02_Name.f k a0_4).bind fun t133 => (if t133 = true then (if a0_0 = 1 then (gramaryeref22_right.j0 k false a0_0 a0_1 a0_2 a0_3 a0_4 l0_5) else (gramaryeref22_right.j0 k (decide ((l0_5.length : Int) > 0)) a0_0 a0_1 a0_2 a0_3 a0_4 l0_5)) else (gramaryeref22_right.j0 k true a0_0 a0_1 a0_2 a0_3 a0_4 l0_5)))))))) = some r := h
 clear h
 have HC2 := Aside0.mk H
 clear H
 go_enter Tryd.func77, Tryd.ntmps77
 go_upto_region 1 with (first | ((with_reducible refine gate_dst (N := 1) rfl ?_); (try (refine gate_guard (by rfl) ?_; dsimp only)); refine box_event ?hg (N := 1) ?hd (cs := #[.int .i64 a0_0, .int .i64 a0_1, .int .i64 a0_2, .int .i64 a0_3, .string a0_4, .slice A0_5 l0_5.length c0_5]) (t := 33) ?hr ?_; (case hd => rfl); (case hg => rfl); (case hr => first | (go_simp; done) | (go_simp; rfl)); intro gb132 hg w3 hbox hb; have n0_ := Aside0.mk (below_step (by repeat (first | (with_reducible first | exact HB.out | apply below_alloc | apply pw_below_drewN | apply below_drew1) | exact HB.out)) hb); have n1_ := Aside0.mk (hbox); have n2_ := Aside0.mk ((by rw [hg]; exact (below_size (by repeat (first | (with_reducible first | exact HB.out | apply below_alloc | apply pw_below_drewN | apply below_drew1) | exact HB.out))) : w.heap.size ≤ gb132)); have n3_ := Aside0.mk ((by rw [hg]; exact (below_size (by repeat (first | (with_reducible first | exact HB.out | apply below_alloc | apply pw_below_drewN | apply below_drew1) | exact HB.out))) : w.heap.size ≤ gb132)); clear HB; have HB := n0_; have BK132 := n1_; have GW132 := n2_; have GE132 := n3_; clear n0_ n1_ n2_ n3_; clear hb hbox hg))
 (try simp only [Act.put, List.setIfInBounds_toArray, List.set_cons_zero, List.set_cons_succ])
 go_cut [44] (fun v44 wc => ∃ (kq : Nat) (x44_1 : Bool), v44 = .bool x44_1 ∧ Aside0 (gramaryeref22_right.j0 kq x44_1 a0_0 a0_1 a0_2 a0_3 a0_4 l0_5 = some r) ∧ Aside0 (kq ≤ k) ∧ Aside0 (wc.heap[gb132]? = some (.cells #[.int .i64 a0_0, .int .i64 a0_1, .int .i64 a0_2, .int .i64 a0_3, .string a0_4, (.slice A0_5 l0_5.length c0_5)] 33 (0, 0))) ∧ Aside0 (Below w.heap.size w wc))
 case first =>
  have H := HC2.out
  clear HC2
  by_cases c4 : a0_0 < 1
  ·
   rw [if_pos c4] at H
   have c4b0 : decide (a0_0 < 1) = true := decide_eq_true c4
   clear c4
   (first | rw [c4b0] | (simp only [i64_w, i32_w]; rw [c4b0]) | skip)
   have H' := Aside0.mk H
   clear H
   have hcz5_0 : w3.cell? ⟨gb132, 0, none⟩ = some (.int .i64 a0_0) := (blk_cell BK132.out 0).trans rfl
   have hcz5_1 : w3.cell? ⟨gb132, 1, none⟩ = some (.int .i64 a0_1) := (blk_cell BK132.out 1).trans rfl
   have hcz5_2 : w3.cell? ⟨gb132, 2, none⟩ = some (.int .i64 a0_2) := (blk_cell BK132.out 2).trans rfl
   have hcz5_3 : w3.cell? ⟨gb132, 3, none⟩ = some (.int .i64 a0_3) := (blk_cell BK132.out 3).trans rfl
   have hcz5_4 : w3.cell? ⟨gb132, 4, none⟩ = some (.string a0_4) := (blk_cell BK132.out 4).trans rfl
   have hcz5_5 : w3.cell? ⟨gb132, 5, none⟩ = some (.slice A0_5 l0_5.length c0_5) := (blk_cell BK132.out 5).trans rfl
   have hfz5_0 := blk_frozen BK132.out 0
   have hfz5_1 := blk_frozen BK132.out 1
   have hfz5_2 := blk_frozen BK132.out 2
   have hfz5_3 := blk_frozen BK132.out 3
   have hfz5_4 := blk_frozen BK132.out 4
   have hfz5_5 := blk_frozen BK132.out 5
   go_wp2
   go_meet
   case rel => exact ⟨_, (true), (by first | rfl | (simp; done) | (simp [*]; done)), H', ⟨by first | omega | exact Nat.le_refl _⟩, ⟨by (with_reducible repeat (first | refine blk_drewN ?_ _ | refine blk_drew ?_ | refine blk_alloc ?_ _)); exact BK132.out⟩, ⟨by repeat (first | (with_reducible first | exact HB.out | apply below_alloc | apply pw_below_drewN | apply below_drew1 | refine below_set ?_ GE132.out) | exact HB.out)⟩⟩
  ·
   rw [if_neg c4] at H
   have c4b0 : decide (a0_0 < 1) = false := decide_eq_false c4
   clear c4
   (first | rw [c4b0] | (simp only [i64_w, i32_w]; rw [c4b0]) | skip)
   by_cases c6 : a0_0 > 5
   ·
    rw [if_pos c6] at H
    have c6b0 : decide (5 < a0_0) = true := decide_eq_true c6
    clear c6
    have H' := Aside0.mk H
    clear H
    have hcz7_0 : w3.cell? ⟨gb132, 0, none⟩ = some (.int .i64 a0_0) := (blk_cell BK132.out 0).trans rfl
    have hcz7_1 : w3.cell? ⟨gb132, 1, none⟩ = some (.int .i64 a0_1) := (blk_cell BK132.out 1).trans rfl
    have hcz7_2 : w3.cell? ⟨gb132, 2, none⟩ = some (.int .i64 a0_2) := (blk_cell BK132.out 2).trans rfl
    have hcz7_3 : w3.cell? ⟨gb132, 3, none⟩ = some (.int .i64 a0_3) := (blk_cell BK132.out 3).trans rfl
    have hcz7_4 : w3.cell? ⟨gb132, 4, none⟩ = some (.string a0_4) := (blk_cell BK132.out 4).trans rfl
    have hcz7_5 : w3.cell? ⟨gb132, 5, none⟩ = some (.slice A0_5 l0_5.length c0_5) := (blk_cell BK132.out 5).trans rfl
    have hfz7_0 := blk_frozen BK132.out 0
    have hfz7_1 := blk_frozen BK132.out 1
    have hfz7_2 := blk_frozen BK132.out 2
    have hfz7_3 := blk_frozen BK132.out 3
    have hfz7_4 := blk_frozen BK132.out 4
    have hfz7_5 := blk_frozen BK132.out 5
    go_wp2
    go_meet
    case rel => exact ⟨_, (true), (by first | rfl | (simp; done) | (simp [*]; done)), H', ⟨by first | omega | exact Nat.le_refl _⟩, ⟨by (with_reducible repeat (first | refine blk_drewN ?_ _ | refine blk_drew ?_ | refine blk_alloc ?_ _)); exact BK132.out⟩, ⟨by repeat (first | (with_reducible first | exact HB.out | apply below_alloc | apply pw_below_drewN | apply below_drew1 | refine below_set ?_ GE132.out) | exact HB.out)⟩⟩
   ·
    rw [if_neg c6] at H
    have c6b0 : decide (5 < a0_0) = false := decide_eq_false c6
    clear c6
    by_cases c8 : a0_2 < 0
    ·
     rw [if_pos c8] at H
     have c8b0 : decide (a0_2 < 0) = true := decide_eq_true c8
     clear c8
     have H' := Aside0.mk H
     clear H
     have hcz9_0 : w3.cell? ⟨gb132, 0, none⟩ = some (.int .i64 a0_0) := (blk_cell BK132.out 0).trans rfl
     have hcz9_1 : w3.cell? ⟨gb132, 1, none⟩ = some (.int .i64 a0_1) := (blk_cell BK132.out 1).trans rfl
     have hcz9_2 : w3.cell? ⟨gb132, 2, none⟩ = some (.int .i64 a0_2) := (blk_cell BK132.out 2).trans rfl
     have hcz9_3 : w3.cell? ⟨gb132, 3, none⟩ = some (.int .i64 a0_3) := (blk_cell BK132.out 3).trans rfl
     have hcz9_4 : w3.cell? ⟨gb132, 4, none⟩ = some (.string a0_4) := (blk_cell BK132.out 4).trans rfl
     have hcz9_5 : w3.cell? ⟨gb132, 5, none⟩ = some (.slice A0_5 l0_5.length c0_5) := (blk_cell BK132.out 5).trans rfl
     have hfz9_0 := blk_frozen BK132.out 0
     have hfz9_1 := blk_frozen BK132.out 1
     have hfz9_2 := blk_frozen BK132.out 2
     have hfz9_3 := blk_frozen BK132.out 3
     have hfz9_4 := blk_frozen BK132.out 4
     have hfz9_5 := blk_frozen BK132.out 5
     go_wp2
     go_meet
     case rel => exact ⟨_, (true), (by first | rfl | (simp; done) | (simp [*]; done)), H', ⟨by first | omega | exact Nat.le_refl _⟩, ⟨by (with_reducible repeat (first | refine blk_drewN ?_ _ | refine blk_drew ?_ | refine blk_alloc ?_ _)); exact BK132.out⟩, ⟨by repeat (first | (with_reducible first | exact HB.out | apply below_alloc | apply pw_below_drewN | apply below_drew1 | refine below_set ?_ GE132.out) | exact HB.out)⟩⟩
    ·
     rw [if_neg c8] at H
     have c8b0 : decide (a0_2 < 0) = false := decide_eq_false c8
     clear c8
     by_cases c10 : a0_3 < a0_2
     ·
      rw [if_pos c10] at H
      have c10b0 : decide (a0_3 < a0_2) = true := decide_eq_true c10
      clear c10
      have H' := Aside0.mk H
      clear H
      have hcz11_0 : w3.cell? ⟨gb132, 0, none⟩ = some (.int .i64 a0_0) := (blk_cell BK132.out 0).trans rfl
      have hcz11_1 : w3.cell? ⟨gb132, 1, none⟩ = some (.int .i64 a0_1) := (blk_cell BK132.out 1).trans rfl
      have hcz11_2 : w3.cell? ⟨gb132, 2, none⟩ = some (.int .i64 a0_2) := (blk_cell BK132.out 2).trans rfl
      have hcz11_3 : w3.cell? ⟨gb132, 3, none⟩ = some (.int .i64 a0_3) := (blk_cell BK132.out 3).trans rfl
      have hcz11_4 : w3.cell? ⟨gb132, 4, none⟩ = some (.string a0_4) := (blk_cell BK132.out 4).trans rfl
      have hcz11_5 : w3.cell? ⟨gb132, 5, none⟩ = some (.slice A0_5 l0_5.length c0_5) := (blk_cell BK132.out 5).trans rfl
      have hfz11_0 := blk_frozen BK132.out 0
      have hfz11_1 := blk_frozen BK132.out 1
      have hfz11_2 := blk_frozen BK132.out 2
      have hfz11_3 := blk_frozen BK132.out 3
      have hfz11_4 := blk_frozen BK132.out 4
      have hfz11_5 := blk_frozen BK132.out 5
      go_wp2
      go_meet
      case rel => exact ⟨_, (true), (by first | rfl | (simp; done) | (simp [*]; done)), H', ⟨by first | omega | exact Nat.le_refl _⟩, ⟨by (with_reducible repeat (first | refine blk_drewN ?_ _ | refine blk_drew ?_ | refine blk_alloc ?_ _)); exact BK132.out⟩, ⟨by repeat (first | (with_reducible first | exact HB.out | apply below_alloc | apply pw_below_drewN | apply below_drew1 | refine below_set ?_ GE132.out) | exact HB.out)⟩⟩
     ·
      rw [if_neg c10] at H
      have c10b0 : decide (a0_3 < a0_2) = false := decide_eq_false c10
      clear c10
      by_cases c12 : a0_4.toList = ([] : List UInt8)
      ·
       rw [if_pos c12] at H
       have c12b0 : (a0_4.toList == ([] : List UInt8)) = true := beq_iff_eq.mpr c12
       have c12b1 : (a0_4.toList != ([] : List UInt8)) = false := bne_eq_false_iff_eq.mpr c12
       clear c12
       by_cases c13 : a0_0 = 1
       ·
        rw [if_pos c13] at H
        have c13b0 : (a0_0 == 1) = true := beq_iff_eq.mpr c13
        have c13b1 : (a0_0 != 1) = false := bne_eq_false_iff_eq.mpr c13
        clear c13
        have H' := Aside0.mk H
        clear H
        have hcz14_0 : w3.cell? ⟨gb132, 0, none⟩ = some (.int .i64 a0_0) := (blk_cell BK132.out 0).trans rfl
        have hcz14_1 : w3.cell? ⟨gb132, 1, none⟩ = some (.int .i64 a0_1) := (blk_cell BK132.out 1).trans rfl
        have hcz14_2 : w3.cell? ⟨gb132, 2, none⟩ = some (.int .i64 a0_2) := (blk_cell BK132.out 2).trans rfl
        have hcz14_3 : w3.cell? ⟨gb132, 3, none⟩ = some (.int .i64 a0_3) := (blk_cell BK132.out 3).trans rfl
        have hcz14_4 : w3.cell? ⟨gb132, 4, none⟩ = some (.string a0_4) := (blk_cell BK132.out 4).trans rfl
        have hcz14_5 : w3.cell? ⟨gb132, 5, none⟩ = some (.slice A0_5 l0_5.length c0_5) := (blk_cell BK132.out 5).trans rfl
        have hfz14_0 := blk_frozen BK132.out 0
        have hfz14_1 := blk_frozen BK132.out 1
        have hfz14_2 := blk_frozen BK132.out 2
        have hfz14_3 := blk_frozen BK132.out 3
        have hfz14_4 := blk_frozen BK132.out 4
        have hfz14_5 := blk_frozen BK132.out 5
        go_wp2
        go_meet
        case rel => exact ⟨_, (false), (by first | rfl | (simp; done) | (simp [*]; done)), H', ⟨by first | omega | exact Nat.le_refl _⟩, ⟨by (with_reducible repeat (first | refine blk_drewN ?_ _ | refine blk_drew ?_ | refine blk_alloc ?_ _)); exact BK132.out⟩, ⟨by repeat (first | (with_reducible first | exact HB.out | apply below_alloc | apply pw_below_drewN | apply below_drew1 | refine below_set ?_ GE132.out) | exact HB.out)⟩⟩
       ·
        rw [if_neg c13] at H
        have c13b0 : (a0_0 == 1) = false := beq_eq_false_iff_ne.mpr c13
        have c13b1 : (a0_0 != 1) = true := bne_iff_ne.mpr c13
        have H' := Aside0.mk H
        clear H
        have hcz15_0 : w3.cell? ⟨gb132, 0, none⟩ = some (.int .i64 a0_0) := (blk_cell BK132.out 0).trans rfl
        have hcz15_1 : w3.cell? ⟨gb132, 1, none⟩ = some (.int .i64 a0_1) := (blk_cell BK132.out 1).trans rfl
        have hcz15_2 : w3.cell? ⟨gb132, 2, none⟩ = some (.int .i64 a0_2) := (blk_cell BK132.out 2).trans rfl
        have hcz15_3 : w3.cell? ⟨gb132, 3, none⟩ = some (.int .i64 a0_3) := (blk_cell BK132.out 3).trans rfl
        have hcz15_4 : w3.cell? ⟨gb132, 4, none⟩ = some (.string a0_4) := (blk_cell BK132.out 4).trans rfl
        have hcz15_5 : w3.cell? ⟨gb132, 5, none⟩ = some (.slice A0_5 l0_5.length c0_5) := (blk_cell BK132.out 5).trans rfl
        have hfz15_0 := blk_frozen BK132.out 0
        have hfz15_1 := blk_frozen BK132.out 1
        have hfz15_2 := blk_frozen BK132.out 2
        have hfz15_3 := blk_frozen BK132.out 3
        have hfz15_4 := blk_frozen BK132.out 4
        have hfz15_5 := blk_frozen BK132.out 5
        go_wp2
        go_meet
        case rel => exact ⟨_, (decide ((l0_5.length : Int) > 0)), (by first | rfl | (simp; done) | (simp [*]; done)), H', ⟨by first | omega | exact Nat.le_refl _⟩, ⟨by (with_reducible repeat (first | refine blk_drewN ?_ _ | refine blk_drew ?_ | refine blk_alloc ?_ _)); exact BK132.out⟩, ⟨by repeat (first | (with_reducible first | exact HB.out | apply below_alloc | apply pw_below_drewN | apply below_drew1 | refine below_set ?_ GE132.out) | exact HB.out)⟩⟩
      ·
       rw [if_neg c12] at H
       have c12b0 : (a0_4.toList == ([] : List UInt8)) = false := beq_eq_false_iff_ne.mpr c12
       have c12b1 : (a0_4.toList != ([] : List UInt8)) = true := bne_iff_ne.mpr c12
       replace H := Option.bind_eq_some_iff.mp H
       obtain ⟨t133, A160, H⟩ := H
       replace H : (if t133 = true then (if a0_0 = 1 then (gramaryeref22_right.j0 k false a0_0 a0_1 a0_2 a0_3 a0_4 l0_5) else (gramaryeref22_right.j0 k (decide ((l0_5.length : Int) > 0)) a0_0 a0_1 a0_2 a0_3 a0_4 l0_5)) else (gramaryeref22_right.j0 k true a0_0 a0_1 a0_2 a0_3 a0_4 l0_5)) = some r := H
       have A16 := Aside0.mk A160
       clear A160
       by_cases c17 : t133 = true
       ·
        subst c17
        have H1 : (if a0_0 = 1 then (gramaryeref22_right.j0 k false a0_0 a0_1 a0_2 a0_3 a0_4 l0_5) else (gramaryeref22_right.j0 k (decide ((l0_5.length : Int) > 0)) a0_0 a0_1 a0_2 a0_3 a0_4 l0_5)) = some r := by rw [if_pos rfl] at H; exact H
        clear H
        have H := H1
        clear H1
        by_cases c18 : a0_0 = 1
        ·
         rw [if_pos c18] at H
         have c18b0 : (a0_0 == 1) = true := beq_iff_eq.mpr c18
         have c18b1 : (a0_0 != 1) = false := bne_eq_false_iff_eq.mpr c18
         clear c18
         have H' := Aside0.mk H
         clear H
         have hcz19_0 : w3.cell? ⟨gb132, 0, none⟩ = some (.int .i64 a0_0) := (blk_cell BK132.out 0).trans rfl
         have hcz19_1 : w3.cell? ⟨gb132, 1, none⟩ = some (.int .i64 a0_1) := (blk_cell BK132.out 1).trans rfl
         have hcz19_2 : w3.cell? ⟨gb132, 2, none⟩ = some (.int .i64 a0_2) := (blk_cell BK132.out 2).trans rfl
         have hcz19_3 : w3.cell? ⟨gb132, 3, none⟩ = some (.int .i64 a0_3) := (blk_cell BK132.out 3).trans rfl
         have hcz19_4 : w3.cell? ⟨gb132, 4, none⟩ = some (.string a0_4) := (blk_cell BK132.out 4).trans rfl
         have hcz19_5 : w3.cell? ⟨gb132, 5, none⟩ = some (.slice A0_5 l0_5.length c0_5) := (blk_cell BK132.out 5).trans rfl
         have hfz19_0 := blk_frozen BK132.out 0
         have hfz19_1 := blk_frozen BK132.out 1
         have hfz19_2 := blk_frozen BK132.out 2
         have hfz19_3 := blk_frozen BK132.out 3
         have hfz19_4 := blk_frozen BK132.out 4
         have hfz19_5 := blk_frozen BK132.out 5
         go_wp2_with (first | (go_at_call 104; (with_reducible refine (gramaryeref02_Name.calls k a0_4 true _ A16.out).mono ?_); rintro e w' ⟨rfl, ⟨nd, rfl⟩⟩))
         go_meet
         case rel => exact ⟨_, (false), (by first | rfl | (simp; done) | (simp [*]; done)), H', ⟨by first | omega | exact Nat.le_refl _⟩, ⟨by (with_reducible repeat (first | refine blk_drewN ?_ _ | refine blk_drew ?_ | refine blk_alloc ?_ _)); exact BK132.out⟩, ⟨by repeat (first | (with_reducible first | exact HB.out | apply below_alloc | apply pw_below_drewN | apply below_drew1 | refine below_set ?_ GE132.out) | exact HB.out)⟩⟩
        ·
         rw [if_neg c18] at H
         have c18b0 : (a0_0 == 1) = false := beq_eq_false_iff_ne.mpr c18
         have c18b1 : (a0_0 != 1) = true := bne_iff_ne.mpr c18
         have H' := Aside0.mk H
         clear H
         have hcz20_0 : w3.cell? ⟨gb132, 0, none⟩ = some (.int .i64 a0_0) := (blk_cell BK132.out 0).trans rfl
         have hcz20_1 : w3.cell? ⟨gb132, 1, none⟩ = some (.int .i64 a0_1) := (blk_cell BK132.out 1).trans rfl
         have hcz20_2 : w3.cell? ⟨gb132, 2, none⟩ = some (.int .i64 a0_2) := (blk_cell BK132.out 2).trans rfl
         have hcz20_3 : w3.cell? ⟨gb132, 3, none⟩ = some (.int .i64 a0_3) := (blk_cell BK132.out 3).trans rfl
         have hcz20_4 : w3.cell? ⟨gb132, 4, none⟩ = some (.string a0_4) := (blk_cell BK132.out 4).trans rfl
         have hcz20_5 : w3.cell? ⟨gb132, 5, none⟩ = some (.slice A0_5 l0_5.length c0_5) := (blk_cell BK132.out 5).trans rfl
         have hfz20_0 := blk_frozen BK132.out 0
         have hfz20_1 := blk_frozen BK132.out 1
         have hfz20_2 := blk_frozen BK132.out 2
         have hfz20_3 := blk_frozen BK132.out 3
         have hfz20_4 := blk_frozen BK132.out 4
         have hfz20_5 := blk_frozen BK132.out 5
         go_wp2_with (first | (go_at_call 104; (with_reducible refine (gramaryeref02_Name.calls k a0_4 true _ A16.out).mono ?_); rintro e w' ⟨rfl, ⟨nd, rfl⟩⟩))
         go_meet
         case rel => exact ⟨_, (decide ((l0_5.length : Int) > 0)), (by first | rfl | (simp; done) | (simp [*]; done)), H', ⟨by first | omega | exact Nat.le_refl _⟩, ⟨by (with_reducible repeat (first | refine blk_drewN ?_ _ | refine blk_drew ?_ | refine blk_alloc ?_ _)); exact BK132.out⟩, ⟨by repeat (first | (with_reducible first | exact HB.out | apply below_alloc | apply pw_below_drewN | apply below_drew1 | refine below_set ?_ GE132.out) | exact HB.out)⟩⟩
       ·
        replace c17 := Bool.eq_false_iff.mpr c17
        subst c17
        have H1 : (gramaryeref22_right.j0 k true a0_0 a0_1 a0_2 a0_3 a0_4 l0_5) = some r := by rw [if_neg (show ¬ (false = true) by decide)] at H; exact H
        clear H
        have H := H1
        clear H1
        have H' := Aside0.mk H
        clear H
        have hcz21_0 : w3.cell? ⟨gb132, 0, none⟩ = some (.int .i64 a0_0) := (blk_cell BK132.out 0).trans rfl
        have hcz21_1 : w3.cell? ⟨gb132, 1, none⟩ = some (.int .i64 a0_1) := (blk_cell BK132.out 1).trans rfl
        have hcz21_2 : w3.cell? ⟨gb132, 2, none⟩ = some (.int .i64 a0_2) := (blk_cell BK132.out 2).trans rfl
        have hcz21_3 : w3.cell? ⟨gb132, 3, none⟩ = some (.int .i64 a0_3) := (blk_cell BK132.out 3).trans rfl
        have hcz21_4 : w3.cell? ⟨gb132, 4, none⟩ = some (.string a0_4) := (blk_cell BK132.out 4).trans rfl
        have hcz21_5 : w3.cell? ⟨gb132, 5, none⟩ = some (.slice A0_5 l0_5.length c0_5) := (blk_cell BK132.out 5).trans rfl
        have hfz21_0 := blk_frozen BK132.out 0
        have hfz21_1 := blk_frozen BK132.out 1
        have hfz21_2 := blk_frozen BK132.out 2
        have hfz21_3 := blk_frozen BK132.out 3
        have hfz21_4 := blk_frozen BK132.out 4
        have hfz21_5 := blk_frozen BK132.out 5
        go_wp2_with (first | (go_at_call 104; (with_reducible refine (gramaryeref02_Name.calls k a0_4 false _ A16.out).mono ?_); rintro e w' ⟨rfl, ⟨nd, rfl⟩⟩))
        go_meet
        case rel => exact ⟨_, (true), (by first | rfl | (simp; done) | (simp [*]; done)), H', ⟨by first | omega | exact Nat.le_refl _⟩, ⟨by (with_reducible repeat (first | refine blk_drewN ?_ _ | refine blk_drew ?_ | refine blk_alloc ?_ _)); exact BK132.out⟩, ⟨by repeat (first | (with_reducible first | exact HB.out | apply below_alloc | apply pw_below_drewN | apply below_drew1 | refine below_set ?_ GE132.out) | exact HB.out)⟩⟩
 case rest =>
  clear HC2
  try clear c1
  try clear p2
  try clear c4
  try clear c4b0
  try clear c6
  try clear c6b0
  try clear c7
  try clear c8
  try clear c8b0
  try clear c10
  try clear c10b0
  try clear c12
  try clear c12b0
  try clear c12b1
  try clear c13
  try clear c13b0
  try clear c13b1
  try clear c17
  try clear c18
  try clear c18b0
  try clear c18b1
  try clear hcz11_0
  try clear hcz11_1
  try clear hcz11_2
  try clear hcz11_3
  try clear hcz11_4
  try clear hcz11_5
  try clear hcz14_0
  try clear hcz14_1
  try clear hcz14_2
  try clear hcz14_3
  try clear hcz14_4
  try clear hcz14_5
  try clear hcz15_0
  try clear hcz15_1
  try clear hcz15_2
  try clear hcz15_3
  try clear hcz15_4
  try clear hcz15_5
  try clear hcz19_0
  try clear hcz19_1
  try clear hcz19_2
  try clear hcz19_3
  try clear hcz19_4
  try clear hcz19_5
  try clear hcz20_0
  try clear hcz20_1
  try clear hcz20_2
  try clear hcz20_3
  try clear hcz20_4
  try clear hcz20_5
  try clear hcz21_0
  try clear hcz21_1
  try clear hcz21_2
  try clear hcz21_3
  try clear hcz21_4
  try clear hcz21_5
  try clear hcz5_0
  try clear hcz5_1
  try clear hcz5_2
  try clear hcz5_3
  try clear hcz5_4
  try clear hcz5_5
  try clear hcz7_0
  try clear hcz7_1
  try clear hcz7_2
  try clear hcz7_3
  try clear hcz7_4
  try clear hcz7_5
  try clear hcz9_0
  try clear hcz9_1
  try clear hcz9_2
  try clear hcz9_3
  try clear hcz9_4
  try clear hcz9_5
  try clear hfz11_0
  try clear hfz11_1
  try clear hfz11_2
  try clear hfz11_3
  try clear hfz11_4
  try clear hfz11_5
  try clear hfz14_0
  try clear hfz14_1
  try clear hfz14_2
  try clear hfz14_3
  try clear hfz14_4
  try clear hfz14_5
  try clear hfz15_0
  try clear hfz15_1
  try clear hfz15_2
  try clear hfz15_3
  try clear hfz15_4
  try clear hfz15_5
  try clear hfz19_0
  try clear hfz19_1
  try clear hfz19_2
  try clear hfz19_3
  try clear hfz19_4
  try clear hfz19_5
  try clear hfz20_0
  try clear hfz20_1
  try clear hfz20_2
  try clear hfz20_3
  try clear hfz20_4
  try clear hfz20_5
  try clear hfz21_0
  try clear hfz21_1
  try clear hfz21_2
  try clear hfz21_3
  try clear hfz21_4
  try clear hfz21_5
  try clear hfz5_0
  try clear hfz5_1
  try clear hfz5_2
  try clear hfz5_3
  try clear hfz5_4
  try clear hfz5_5
  try clear hfz7_0
  try clear hfz7_1
  try clear hfz7_2
  try clear hfz7_3
  try clear hfz7_4
  try clear hfz7_5
  try clear hfz9_0
  try clear hfz9_1
  try clear hfz9_2
  try clear hfz9_3
  try clear hfz9_4
  try clear hfz9_5
  obtain ⟨kq, x44_1, rfl, HA, HJ1, BK132, HB⟩ := hcut
  cases kq with
  | zero => exact absurd HA.out (by simp [gramaryeref22_right.j0])
  | succ kj1 =>
   have H := HA.out
   clear HA
   simp only [gramaryeref22_right.j0] at H
   by_cases c22 : x44_1 = true
   ·
    subst c22
    have H1 : (some false) = some r := by rw [if_pos rfl] at H; exact H
    clear H
    have H := H1
    clear H1
    obtain rfl := Option.some.inj H
    go_wp2
    go_ret
    exact ⟨by first | rfl | (simp [errW_none, errW_some] <;> rfl) | (simp [*, errW_none, errW_some] <;> rfl), by repeat (first | (with_reducible first | exact HB.out | apply below_alloc | apply pw_below_drewN | apply below_drew1 | refine below_set ?_ GE132.out) | exact HB.out)⟩
   ·
    replace c22 := Bool.eq_false_iff.mpr c22
    subst c22
    have H1 : (if a0_0 = 1 then (if a0_1 ≥ 0 then (if (l0_5.length : Int) > 0 then (some true) else (some (a0_2 == a0_3))) else (some false)) else (if a0_0 = 2 then (if a0_1 ≥ 1 then (some ((wrap64 (a0_3 - a0_2)) == 1)) else (some false)) else (if a0_0 = 3 then (if a0_1 = 0 then (if a0_4.toList = ([] : List UInt8) then (some (decide (a0_2 < a0_3))) else (some false)) else (some false)) else (if a0_0 = 4 then (if a0_1 ≥ 1 then (some (a0_2 == a0_3)) else (some false)) else (if a0_1 ≥ 0 then (some (a0_2 == a0_3)) else (some false)))))) = some r := by rw [if_neg (show ¬ (false = true) by decide)] at H; exact H
    clear H
    have H := H1
    clear H1
    by_cases c23 : a0_0 = 1
    ·
     rw [if_pos c23] at H
     have c23b0 : (a0_0 == 1) = true := beq_iff_eq.mpr c23
     have c23b1 : (a0_0 != 1) = false := bne_eq_false_iff_eq.mpr c23
     clear c23
     by_cases c24 : a0_1 ≥ 0
     ·
      rw [if_pos c24] at H
      have c24b0 : decide (0 ≤ a0_1) = true := decide_eq_true c24
      clear c24
      by_cases c25 : (l0_5.length : Int) > 0
      ·
       rw [if_pos c25] at H
       have c25b0 : decide (0 < (l0_5.length : Int)) = true := decide_eq_true c25
       have c25b1 : decide (0 < l0_5.length) = true := decide_eq_true (by omega)
       clear c25
       obtain rfl := Option.some.inj H
       have hcz26_0 : wc.cell? ⟨gb132, 0, none⟩ = some (.int .i64 a0_0) := (blk_cell BK132.out 0).trans rfl
       have hcz26_1 : wc.cell? ⟨gb132, 1, none⟩ = some (.int .i64 a0_1) := (blk_cell BK132.out 1).trans rfl
       have hcz26_2 : wc.cell? ⟨gb132, 2, none⟩ = some (.int .i64 a0_2) := (blk_cell BK132.out 2).trans rfl
       have hcz26_3 : wc.cell? ⟨gb132, 3, none⟩ = some (.int .i64 a0_3) := (blk_cell BK132.out 3).trans rfl
       have hcz26_4 : wc.cell? ⟨gb132, 4, none⟩ = some (.string a0_4) := (blk_cell BK132.out 4).trans rfl
       have hcz26_5 : wc.cell? ⟨gb132, 5, none⟩ = some (.slice A0_5 l0_5.length c0_5) := (blk_cell BK132.out 5).trans rfl
       have hfz26_0 := blk_frozen BK132.out 0
       have hfz26_1 := blk_frozen BK132.out 1
       have hfz26_2 := blk_frozen BK132.out 2
       have hfz26_3 := blk_frozen BK132.out 3
       have hfz26_4 := blk_frozen BK132.out 4
       have hfz26_5 := blk_frozen BK132.out 5
       go_wp2
       go_ret
       exact ⟨by first | rfl | (simp [errW_none, errW_some] <;> rfl) | (simp [*, errW_none, errW_some] <;> rfl), by repeat (first | (with_reducible first | exact HB.out | apply below_alloc | apply pw_below_drewN | apply below_drew1 | refine below_set ?_ GE132.out) | exact HB.out)⟩
      ·
       rw [if_neg c25] at H
       have c25b0 : decide (0 < (l0_5.length : Int)) = false := decide_eq_false c25
       have c25b1 : decide (0 < l0_5.length) = false := decide_eq_false (by omega)
       clear c25
       obtain rfl := Option.some.inj H
       have hcz27_0 : wc.cell? ⟨gb132, 0, none⟩ = some (.int .i64 a0_0) := (blk_cell BK132.out 0).trans rfl
       have hcz27_1 : wc.cell? ⟨gb132, 1, none⟩ = some (.int .i64 a0_1) := (blk_cell BK132.out 1).trans rfl
       have hcz27_2 : wc.cell? ⟨gb132, 2, none⟩ = some (.int .i64 a0_2) := (blk_cell BK132.out 2).trans rfl
       have hcz27_3 : wc.cell? ⟨gb132, 3, none⟩ = some (.int .i64 a0_3) := (blk_cell BK132.out 3).trans rfl
       have hcz27_4 : wc.cell? ⟨gb132, 4, none⟩ = some (.string a0_4) := (blk_cell BK132.out 4).trans rfl
       have hcz27_5 : wc.cell? ⟨gb132, 5, none⟩ = some (.slice A0_5 l0_5.length c0_5) := (blk_cell BK132.out 5).trans rfl
       have hfz27_0 := blk_frozen BK132.out 0
       have hfz27_1 := blk_frozen BK132.out 1
       have hfz27_2 := blk_frozen BK132.out 2
       have hfz27_3 := blk_frozen BK132.out 3
       have hfz27_4 := blk_frozen BK132.out 4
       have hfz27_5 := blk_frozen BK132.out 5
       go_wp2
       go_ret
       exact ⟨by first | rfl | (simp [errW_none, errW_some] <;> rfl) | (simp [*, errW_none, errW_some] <;> rfl), by repeat (first | (with_reducible first | exact HB.out | apply below_alloc | apply pw_below_drewN | apply below_drew1 | refine below_set ?_ GE132.out) | exact HB.out)⟩
     ·
      rw [if_neg c24] at H
      have c24b0 : decide (0 ≤ a0_1) = false := decide_eq_false c24
      clear c24
      obtain rfl := Option.some.inj H
      have hcz28_0 : wc.cell? ⟨gb132, 0, none⟩ = some (.int .i64 a0_0) := (blk_cell BK132.out 0).trans rfl
      have hcz28_1 : wc.cell? ⟨gb132, 1, none⟩ = some (.int .i64 a0_1) := (blk_cell BK132.out 1).trans rfl
      have hcz28_2 : wc.cell? ⟨gb132, 2, none⟩ = some (.int .i64 a0_2) := (blk_cell BK132.out 2).trans rfl
      have hcz28_3 : wc.cell? ⟨gb132, 3, none⟩ = some (.int .i64 a0_3) := (blk_cell BK132.out 3).trans rfl
      have hcz28_4 : wc.cell? ⟨gb132, 4, none⟩ = some (.string a0_4) := (blk_cell BK132.out 4).trans rfl
      have hcz28_5 : wc.cell? ⟨gb132, 5, none⟩ = some (.slice A0_5 l0_5.length c0_5) := (blk_cell BK132.out 5).trans rfl
      have hfz28_0 := blk_frozen BK132.out 0
      have hfz28_1 := blk_frozen BK132.out 1
      have hfz28_2 := blk_frozen BK132.out 2
      have hfz28_3 := blk_frozen BK132.out 3
      have hfz28_4 := blk_frozen BK132.out 4
      have hfz28_5 := blk_frozen BK132.out 5
      go_wp2
      go_ret
      exact ⟨by first | rfl | (simp [errW_none, errW_some] <;> rfl) | (simp [*, errW_none, errW_some] <;> rfl), by repeat (first | (with_reducible first | exact HB.out | apply below_alloc | apply pw_below_drewN | apply below_drew1 | refine below_set ?_ GE132.out) | exact HB.out)⟩
    ·
     rw [if_neg c23] at H
     have c23b0 : (a0_0 == 1) = false := beq_eq_false_iff_ne.mpr c23
     have c23b1 : (a0_0 != 1) = true := bne_iff_ne.mpr c23
     by_cases c29 : a0_0 = 2
     ·
      rw [if_pos c29] at H
      have c29b0 : (a0_0 == 2) = true := beq_iff_eq.mpr c29
      have c29b1 : (a0_0 != 2) = false := bne_eq_false_iff_eq.mpr c29
      clear c29
      by_cases c30 : a0_1 ≥ 1
      ·
       rw [if_pos c30] at H
       have c30b0 : decide (1 ≤ a0_1) = true := decide_eq_true c30
       clear c30
       obtain rfl := Option.some.inj H
       have hcz31_0 : wc.cell? ⟨gb132, 0, none⟩ = some (.int .i64 a0_0) := (blk_cell BK132.out 0).trans rfl
       have hcz31_1 : wc.cell? ⟨gb132, 1, none⟩ = some (.int .i64 a0_1) := (blk_cell BK132.out 1).trans rfl
       have hcz31_2 : wc.cell? ⟨gb132, 2, none⟩ = some (.int .i64 a0_2) := (blk_cell BK132.out 2).trans rfl
       have hcz31_3 : wc.cell? ⟨gb132, 3, none⟩ = some (.int .i64 a0_3) := (blk_cell BK132.out 3).trans rfl
       have hcz31_4 : wc.cell? ⟨gb132, 4, none⟩ = some (.string a0_4) := (blk_cell BK132.out 4).trans rfl
       have hcz31_5 : wc.cell? ⟨gb132, 5, none⟩ = some (.slice A0_5 l0_5.length c0_5) := (blk_cell BK132.out 5).trans rfl
       have hfz31_0 := blk_frozen BK132.out 0
       have hfz31_1 := blk_frozen BK132.out 1
       have hfz31_2 := blk_frozen BK132.out 2
       have hfz31_3 := blk_frozen BK132.out 3
       have hfz31_4 := blk_frozen BK132.out 4
       have hfz31_5 := blk_frozen BK132.out 5
       go_wp2
       go_ret
       exact ⟨by first | rfl | (simp [errW_none, errW_some] <;> rfl) | (simp [*, errW_none, errW_some] <;> rfl), by repeat (first | (with_reducible first | exact HB.out | apply below_alloc | apply pw_below_drewN | apply below_drew1 | refine below_set ?_ GE132.out) | exact HB.out)⟩
      ·
       rw [if_neg c30] at H
       have c30b0 : decide (1 ≤ a0_1) = false := decide_eq_false c30
       clear c30
       obtain rfl := Option.some.inj H
       have hcz32_0 : wc.cell? ⟨gb132, 0, none⟩ = some (.int .i64 a0_0) := (blk_cell BK132.out 0).trans rfl
       have hcz32_1 : wc.cell? ⟨gb132, 1, none⟩ = some (.int .i64 a0_1) := (blk_cell BK132.out 1).trans rfl
       have hcz32_2 : wc.cell? ⟨gb132, 2, none⟩ = some (.int .i64 a0_2) := (blk_cell BK132.out 2).trans rfl
       have hcz32_3 : wc.cell? ⟨gb132, 3, none⟩ = some (.int .i64 a0_3) := (blk_cell BK132.out 3).trans rfl
       have hcz32_4 : wc.cell? ⟨gb132, 4, none⟩ = some (.string a0_4) := (blk_cell BK132.out 4).trans rfl
       have hcz32_5 : wc.cell? ⟨gb132, 5, none⟩ = some (.slice A0_5 l0_5.length c0_5) := (blk_cell BK132.out 5).trans rfl
       have hfz32_0 := blk_frozen BK132.out 0
       have hfz32_1 := blk_frozen BK132.out 1
       have hfz32_2 := blk_frozen BK132.out 2
       have hfz32_3 := blk_frozen BK132.out 3
       have hfz32_4 := blk_frozen BK132.out 4
       have hfz32_5 := blk_frozen BK132.out 5
       go_wp2
       go_ret
       exact ⟨by first | rfl | (simp [errW_none, errW_some] <;> rfl) | (simp [*, errW_none, errW_some] <;> rfl), by repeat (first | (with_reducible first | exact HB.out | apply below_alloc | apply pw_below_drewN | apply below_drew1 | refine below_set ?_ GE132.out) | exact HB.out)⟩
     ·
      rw [if_neg c29] at H
      have c29b0 : (a0_0 == 2) = false := beq_eq_false_iff_ne.mpr c29
      have c29b1 : (a0_0 != 2) = true := bne_iff_ne.mpr c29
      by_cases c33 : a0_0 = 3
      ·
       rw [if_pos c33] at H
       have c33b0 : (a0_0 == 3) = true := beq_iff_eq.mpr c33
       have c33b1 : (a0_0 != 3) = false := bne_eq_false_iff_eq.mpr c33
       clear c33
       by_cases c34 : a0_1 = 0
       ·
        rw [if_pos c34] at H
        have c34b0 : (a0_1 == 0) = true := beq_iff_eq.mpr c34
        have c34b1 : (a0_1 != 0) = false := bne_eq_false_iff_eq.mpr c34
        clear c34
        by_cases c35 : a0_4.toList = ([] : List UInt8)
        ·
         rw [if_pos c35] at H
         have c35b0 : (a0_4.toList == ([] : List UInt8)) = true := beq_iff_eq.mpr c35
         have c35b1 : (a0_4.toList != ([] : List UInt8)) = false := bne_eq_false_iff_eq.mpr c35
         clear c35
         obtain rfl := Option.some.inj H
         have hcz36_0 : wc.cell? ⟨gb132, 0, none⟩ = some (.int .i64 a0_0) := (blk_cell BK132.out 0).trans rfl
         have hcz36_1 : wc.cell? ⟨gb132, 1, none⟩ = some (.int .i64 a0_1) := (blk_cell BK132.out 1).trans rfl
         have hcz36_2 : wc.cell? ⟨gb132, 2, none⟩ = some (.int .i64 a0_2) := (blk_cell BK132.out 2).trans rfl
         have hcz36_3 : wc.cell? ⟨gb132, 3, none⟩ = some (.int .i64 a0_3) := (blk_cell BK132.out 3).trans rfl
         have hcz36_4 : wc.cell? ⟨gb132, 4, none⟩ = some (.string a0_4) := (blk_cell BK132.out 4).trans rfl
         have hcz36_5 : wc.cell? ⟨gb132, 5, none⟩ = some (.slice A0_5 l0_5.length c0_5) := (blk_cell BK132.out 5).trans rfl
         have hfz36_0 := blk_frozen BK132.out 0
         have hfz36_1 := blk_frozen BK132.out 1
         have hfz36_2 := blk_frozen BK132.out 2
         have hfz36_3 := blk_frozen BK132.out 3
         have hfz36_4 := blk_frozen BK132.out 4
         have hfz36_5 := blk_frozen BK132.out 5
         go_wp2
         go_ret
         exact ⟨by first | rfl | (simp [errW_none, errW_some] <;> rfl) | (simp [*, errW_none, errW_some] <;> rfl), by repeat (first | (with_reducible first | exact HB.out | apply below_alloc | apply pw_below_drewN | apply below_drew1 | refine below_set ?_ GE132.out) | exact HB.out)⟩
        ·
         rw [if_neg c35] at H
         have c35b0 : (a0_4.toList == ([] : List UInt8)) = false := beq_eq_false_iff_ne.mpr c35
         have c35b1 : (a0_4.toList != ([] : List UInt8)) = true := bne_iff_ne.mpr c35
         obtain rfl := Option.some.inj H
         have hcz37_0 : wc.cell? ⟨gb132, 0, none⟩ = some (.int .i64 a0_0) := (blk_cell BK132.out 0).trans rfl
         have hcz37_1 : wc.cell? ⟨gb132, 1, none⟩ = some (.int .i64 a0_1) := (blk_cell BK132.out 1).trans rfl
         have hcz37_2 : wc.cell? ⟨gb132, 2, none⟩ = some (.int .i64 a0_2) := (blk_cell BK132.out 2).trans rfl
         have hcz37_3 : wc.cell? ⟨gb132, 3, none⟩ = some (.int .i64 a0_3) := (blk_cell BK132.out 3).trans rfl
         have hcz37_4 : wc.cell? ⟨gb132, 4, none⟩ = some (.string a0_4) := (blk_cell BK132.out 4).trans rfl
         have hcz37_5 : wc.cell? ⟨gb132, 5, none⟩ = some (.slice A0_5 l0_5.length c0_5) := (blk_cell BK132.out 5).trans rfl
         have hfz37_0 := blk_frozen BK132.out 0
         have hfz37_1 := blk_frozen BK132.out 1
         have hfz37_2 := blk_frozen BK132.out 2
         have hfz37_3 := blk_frozen BK132.out 3
         have hfz37_4 := blk_frozen BK132.out 4
         have hfz37_5 := blk_frozen BK132.out 5
         go_wp2
         go_ret
         exact ⟨by first | rfl | (simp [errW_none, errW_some] <;> rfl) | (simp [*, errW_none, errW_some] <;> rfl), by repeat (first | (with_reducible first | exact HB.out | apply below_alloc | apply pw_below_drewN | apply below_drew1 | refine below_set ?_ GE132.out) | exact HB.out)⟩
       ·
        rw [if_neg c34] at H
        have c34b0 : (a0_1 == 0) = false := beq_eq_false_iff_ne.mpr c34
        have c34b1 : (a0_1 != 0) = true := bne_iff_ne.mpr c34
        obtain rfl := Option.some.inj H
        have hcz38_0 : wc.cell? ⟨gb132, 0, none⟩ = some (.int .i64 a0_0) := (blk_cell BK132.out 0).trans rfl
        have hcz38_1 : wc.cell? ⟨gb132, 1, none⟩ = some (.int .i64 a0_1) := (blk_cell BK132.out 1).trans rfl
        have hcz38_2 : wc.cell? ⟨gb132, 2, none⟩ = some (.int .i64 a0_2) := (blk_cell BK132.out 2).trans rfl
        have hcz38_3 : wc.cell? ⟨gb132, 3, none⟩ = some (.int .i64 a0_3) := (blk_cell BK132.out 3).trans rfl
        have hcz38_4 : wc.cell? ⟨gb132, 4, none⟩ = some (.string a0_4) := (blk_cell BK132.out 4).trans rfl
        have hcz38_5 : wc.cell? ⟨gb132, 5, none⟩ = some (.slice A0_5 l0_5.length c0_5) := (blk_cell BK132.out 5).trans rfl
        have hfz38_0 := blk_frozen BK132.out 0
        have hfz38_1 := blk_frozen BK132.out 1
        have hfz38_2 := blk_frozen BK132.out 2
        have hfz38_3 := blk_frozen BK132.out 3
        have hfz38_4 := blk_frozen BK132.out 4
        have hfz38_5 := blk_frozen BK132.out 5
        go_wp2
        go_ret
        exact ⟨by first | rfl | (simp [errW_none, errW_some] <;> rfl) | (simp [*, errW_none, errW_some] <;> rfl), by repeat (first | (with_reducible first | exact HB.out | apply below_alloc | apply pw_below_drewN | apply below_drew1 | refine below_set ?_ GE132.out) | exact HB.out)⟩
      ·
       rw [if_neg c33] at H
       have c33b0 : (a0_0 == 3) = false := beq_eq_false_iff_ne.mpr c33
       have c33b1 : (a0_0 != 3) = true := bne_iff_ne.mpr c33
       by_cases c39 : a0_0 = 4
       ·
        rw [if_pos c39] at H
        have c39b0 : (a0_0 == 4) = true := beq_iff_eq.mpr c39
        have c39b1 : (a0_0 != 4) = false := bne_eq_false_iff_eq.mpr c39
        clear c39
        by_cases c40 : a0_1 ≥ 1
        ·
         rw [if_pos c40] at H
         have c40b0 : decide (1 ≤ a0_1) = true := decide_eq_true c40
         clear c40
         obtain rfl := Option.some.inj H
         have hcz41_0 : wc.cell? ⟨gb132, 0, none⟩ = some (.int .i64 a0_0) := (blk_cell BK132.out 0).trans rfl
         have hcz41_1 : wc.cell? ⟨gb132, 1, none⟩ = some (.int .i64 a0_1) := (blk_cell BK132.out 1).trans rfl
         have hcz41_2 : wc.cell? ⟨gb132, 2, none⟩ = some (.int .i64 a0_2) := (blk_cell BK132.out 2).trans rfl
         have hcz41_3 : wc.cell? ⟨gb132, 3, none⟩ = some (.int .i64 a0_3) := (blk_cell BK132.out 3).trans rfl
         have hcz41_4 : wc.cell? ⟨gb132, 4, none⟩ = some (.string a0_4) := (blk_cell BK132.out 4).trans rfl
         have hcz41_5 : wc.cell? ⟨gb132, 5, none⟩ = some (.slice A0_5 l0_5.length c0_5) := (blk_cell BK132.out 5).trans rfl
         have hfz41_0 := blk_frozen BK132.out 0
         have hfz41_1 := blk_frozen BK132.out 1
         have hfz41_2 := blk_frozen BK132.out 2
         have hfz41_3 := blk_frozen BK132.out 3
         have hfz41_4 := blk_frozen BK132.out 4
         have hfz41_5 := blk_frozen BK132.out 5
         go_wp2
         go_ret
         exact ⟨by first | rfl | (simp [errW_none, errW_some] <;> rfl) | (simp [*, errW_none, errW_some] <;> rfl), by repeat (first | (with_reducible first | exact HB.out | apply below_alloc | apply pw_below_drewN | apply below_drew1 | refine below_set ?_ GE132.out) | exact HB.out)⟩
        ·
         rw [if_neg c40] at H
         have c40b0 : decide (1 ≤ a0_1) = false := decide_eq_false c40
         clear c40
         obtain rfl := Option.some.inj H
         have hcz42_0 : wc.cell? ⟨gb132, 0, none⟩ = some (.int .i64 a0_0) := (blk_cell BK132.out 0).trans rfl
         have hcz42_1 : wc.cell? ⟨gb132, 1, none⟩ = some (.int .i64 a0_1) := (blk_cell BK132.out 1).trans rfl
         have hcz42_2 : wc.cell? ⟨gb132, 2, none⟩ = some (.int .i64 a0_2) := (blk_cell BK132.out 2).trans rfl
         have hcz42_3 : wc.cell? ⟨gb132, 3, none⟩ = some (.int .i64 a0_3) := (blk_cell BK132.out 3).trans rfl
         have hcz42_4 : wc.cell? ⟨gb132, 4, none⟩ = some (.string a0_4) := (blk_cell BK132.out 4).trans rfl
         have hcz42_5 : wc.cell? ⟨gb132, 5, none⟩ = some (.slice A0_5 l0_5.length c0_5) := (blk_cell BK132.out 5).trans rfl
         have hfz42_0 := blk_frozen BK132.out 0
         have hfz42_1 := blk_frozen BK132.out 1
         have hfz42_2 := blk_frozen BK132.out 2
         have hfz42_3 := blk_frozen BK132.out 3
         have hfz42_4 := blk_frozen BK132.out 4
         have hfz42_5 := blk_frozen BK132.out 5
         go_wp2
         go_ret
         exact ⟨by first | rfl | (simp [errW_none, errW_some] <;> rfl) | (simp [*, errW_none, errW_some] <;> rfl), by repeat (first | (with_reducible first | exact HB.out | apply below_alloc | apply pw_below_drewN | apply below_drew1 | refine below_set ?_ GE132.out) | exact HB.out)⟩
       ·
        rw [if_neg c39] at H
        have c39b0 : (a0_0 == 4) = false := beq_eq_false_iff_ne.mpr c39
        have c39b1 : (a0_0 != 4) = true := bne_iff_ne.mpr c39
        by_cases c43 : a0_1 ≥ 0
        ·
         rw [if_pos c43] at H
         have c43b0 : decide (0 ≤ a0_1) = true := decide_eq_true c43
         clear c43
         obtain rfl := Option.some.inj H
         have hcz44_0 : wc.cell? ⟨gb132, 0, none⟩ = some (.int .i64 a0_0) := (blk_cell BK132.out 0).trans rfl
         have hcz44_1 : wc.cell? ⟨gb132, 1, none⟩ = some (.int .i64 a0_1) := (blk_cell BK132.out 1).trans rfl
         have hcz44_2 : wc.cell? ⟨gb132, 2, none⟩ = some (.int .i64 a0_2) := (blk_cell BK132.out 2).trans rfl
         have hcz44_3 : wc.cell? ⟨gb132, 3, none⟩ = some (.int .i64 a0_3) := (blk_cell BK132.out 3).trans rfl
         have hcz44_4 : wc.cell? ⟨gb132, 4, none⟩ = some (.string a0_4) := (blk_cell BK132.out 4).trans rfl
         have hcz44_5 : wc.cell? ⟨gb132, 5, none⟩ = some (.slice A0_5 l0_5.length c0_5) := (blk_cell BK132.out 5).trans rfl
         have hfz44_0 := blk_frozen BK132.out 0
         have hfz44_1 := blk_frozen BK132.out 1
         have hfz44_2 := blk_frozen BK132.out 2
         have hfz44_3 := blk_frozen BK132.out 3
         have hfz44_4 := blk_frozen BK132.out 4
         have hfz44_5 := blk_frozen BK132.out 5
         go_wp2
         go_ret
         exact ⟨by first | rfl | (simp [errW_none, errW_some] <;> rfl) | (simp [*, errW_none, errW_some] <;> rfl), by repeat (first | (with_reducible first | exact HB.out | apply below_alloc | apply pw_below_drewN | apply below_drew1 | refine below_set ?_ GE132.out) | exact HB.out)⟩
        ·
         rw [if_neg c43] at H
         have c43b0 : decide (0 ≤ a0_1) = false := decide_eq_false c43
         clear c43
         obtain rfl := Option.some.inj H
         have hcz45_0 : wc.cell? ⟨gb132, 0, none⟩ = some (.int .i64 a0_0) := (blk_cell BK132.out 0).trans rfl
         have hcz45_1 : wc.cell? ⟨gb132, 1, none⟩ = some (.int .i64 a0_1) := (blk_cell BK132.out 1).trans rfl
         have hcz45_2 : wc.cell? ⟨gb132, 2, none⟩ = some (.int .i64 a0_2) := (blk_cell BK132.out 2).trans rfl
         have hcz45_3 : wc.cell? ⟨gb132, 3, none⟩ = some (.int .i64 a0_3) := (blk_cell BK132.out 3).trans rfl
         have hcz45_4 : wc.cell? ⟨gb132, 4, none⟩ = some (.string a0_4) := (blk_cell BK132.out 4).trans rfl
         have hcz45_5 : wc.cell? ⟨gb132, 5, none⟩ = some (.slice A0_5 l0_5.length c0_5) := (blk_cell BK132.out 5).trans rfl
         have hfz45_0 := blk_frozen BK132.out 0
         have hfz45_1 := blk_frozen BK132.out 1
         have hfz45_2 := blk_frozen BK132.out 2
         have hfz45_3 := blk_frozen BK132.out 3
         have hfz45_4 := blk_frozen BK132.out 4
         have hfz45_5 := blk_frozen BK132.out 5
         go_wp2
         go_ret
         exact ⟨by first | rfl | (simp [errW_none, errW_some] <;> rfl) | (simp [*, errW_none, errW_some] <;> rfl), by repeat (first | (with_reducible first | exact HB.out | apply below_alloc | apply pw_below_drewN | apply below_drew1 | refine below_set ?_ GE132.out) | exact HB.out)⟩
end Go.Proofs.YtafbmlhgcmlmpaaDoor.PT
