-- Written by this session's turned printer (wip/tools/oprint.py, op.sh), out of the translation. Lean checks it.
import Derived.Test.YtafbmlhgcmlmpaaDoorPTx0
import Derived.Test.YtafbmlhgcmlmpaaDoorPTx9
namespace Go.Proofs.YtafbmlhgcmlmpaaDoor.PT
open Go.RowKit Go.Proofs.YtafbmlhgcmlmpaaDoorW.PrintWords Go.Proofs.YtafbmlhgcmlmpaaDoorW.PrintLast Go.Proofs.YtafbmlhgcmlmpaaDoorW.PrintMore
attribute [local go_sem] max2_int min2_int max_two min_two max_three min_three max_four min_four   -- for this text's walks alone
set_option linter.unusedVariables false
set_option linter.unusedSimpArgs false
mutual
def gramaryeref22_node.j0 : Nat → List ByteArray → List ByteArray → ByteArray → List (S33) → Int → Int → Int → Int → ByteArray → List Int → Option (ByteArray)
 | 0, _, _, _, _, _, _, _, _, _, _ => none
 | k + 1, x2, x3, x10, x236000, x238000, x238001, x238002, x238003, x238004, x238005 => if x238000 = 1 then ((gramaryeref22_of.f x2 x238001).bind fun t238 => (if 1 + t238.size ≤ 9223372036854775807 then (if x10.size + ((⟨#[40]⟩ : ByteArray) ++ t238).size ≤ 9223372036854775807 then (gramaryeref22_node.l0 k x2 x3 (x10 ++ ((⟨#[40]⟩ : ByteArray) ++ t238)) 0 x236000 x238000 x238001 x238002 x238003 x238004 x238005) else (none)) else (none))) else (if x238000 = 2 then ((gramaryeref22_of.f x3 (wrap64 (x238001 - 1))).bind fun t241 => (if x10.size + t241.size ≤ 9223372036854775807 then (some (x10 ++ t241)) else (none))) else (if x238000 = 3 then (if x10.size + 1 ≤ 9223372036854775807 then ((gramaryebase_Itoa.f k x238002).bind fun t242 => (if (x10 ++ (⟨#[60]⟩ : ByteArray)).size + t242.size ≤ 9223372036854775807 then (if ((x10 ++ (⟨#[60]⟩ : ByteArray)) ++ t242).size + 2 ≤ 9223372036854775807 then ((gramaryebase_Itoa.f k x238003).bind fun t243 => (if (((x10 ++ (⟨#[60]⟩ : ByteArray)) ++ t242) ++ (⟨#[46, 46]⟩ : ByteArray)).size + t243.size ≤ 9223372036854775807 then (if ((((x10 ++ (⟨#[60]⟩ : ByteArray)) ++ t242) ++ (⟨#[46, 46]⟩ : ByteArray)) ++ t243).size + 1 ≤ 9223372036854775807 then (some (((((x10 ++ (⟨#[60]⟩ : ByteArray)) ++ t242) ++ (⟨#[46, 46]⟩ : ByteArray)) ++ t243) ++ (⟨#[62]⟩ : ByteArray))) else (none)) else (none))) else (none)) else (none))) else (none)) else (if x238000 = 4 then (if x10.size + 1 ≤ 9223372036854775807 then ((gramaryeref22_of.f x3 (wrap64 (x238001 - 1))).bind fun t244 => (if (x10 ++ (⟨#[33]⟩ : ByteArray)).size + t244.size ≤ 9223372036854775807 then (some ((x10 ++ (⟨#[33]⟩ : ByteArray)) ++ t244)) else (none))) else (none)) else (if x10.size + 1 ≤ 9223372036854775807 then ((gramaryebase_Itoa.f k x238001).bind fun t245 => (if (x10 ++ (⟨#[63]⟩ : ByteArray)).size + t245.size ≤ 9223372036854775807 then (some ((x10 ++ (⟨#[63]⟩ : ByteArray)) ++ t245)) else (none))) else (none)))))
def gramaryeref22_node.l0 : Nat → List ByteArray → List ByteArray → ByteArray → Int → List (S33) → Int → Int → Int → Int → ByteArray → List Int → Option (ByteArray)
 | 0, _, _, _, _, _, _, _, _, _, _, _ => none
 | k + 1, x2, x3, x10, x11, x236000, x238000, x238001, x238002, x238003, x238004, x238005 => if x11 < (x238005.length : Int) then (if 0 ≤ x11 then ((gramaryeref22_node.f k x236000 (rd x238005 x11) x2 x3).bind fun t240 => (if 1 + t240.size ≤ 9223372036854775807 then (if x10.size + ((⟨#[32]⟩ : ByteArray) ++ t240).size ≤ 9223372036854775807 then (gramaryeref22_node.l0 k x2 x3 (x10 ++ ((⟨#[32]⟩ : ByteArray) ++ t240)) (wrap64 (x11 + 1)) x236000 x238000 x238001 x238002 x238003 x238004 x238005) else (none)) else (none))) else (none)) else (if x10.size + 1 ≤ 9223372036854775807 then (some (x10 ++ (⟨#[41]⟩ : ByteArray))) else (none))
def gramaryeref22_node.f : Nat → List (S33) → Int → List ByteArray → List ByteArray → Option (ByteArray)
 | 0, _, _, _, _ => none
 | k + 1, l0_0, a1, l2, l3 => if 0 ≤ a1 then (if a1 < (l0_0.length : Int) then (if ((rd_T33 l0_0 a1).f4).toList = ([] : List UInt8) then (gramaryeref22_node.j0 k l2 l3 (⟨#[]⟩ : ByteArray) l0_0 ((rd_T33 l0_0 a1).f0) ((rd_T33 l0_0 a1).f1) ((rd_T33 l0_0 a1).f2) ((rd_T33 l0_0 a1).f3) ((rd_T33 l0_0 a1).f4) ((rd_T33 l0_0 a1).f5)) else (if ((rd_T33 l0_0 a1).f4).size + 1 ≤ 9223372036854775807 then (gramaryeref22_node.j0 k l2 l3 (((rd_T33 l0_0 a1).f4) ++ (⟨#[58]⟩ : ByteArray)) l0_0 ((rd_T33 l0_0 a1).f0) ((rd_T33 l0_0 a1).f1) ((rd_T33 l0_0 a1).f2) ((rd_T33 l0_0 a1).f3) ((rd_T33 l0_0 a1).f4) ((rd_T33 l0_0 a1).f5)) else (none))) else (none)) else (none)
end
theorem gramaryeref22_node.mono_l : ∀ k, (∀ y0 y1 y2 y3, LeO (gramaryeref22_node.f k y0 y1 y2 y3) (gramaryeref22_node.f (k + 1) y0 y1 y2 y3)) ∧ (∀ y0 y1 y2 y3 y4 y5 y6 y7 y8 y9, LeO (gramaryeref22_node.j0 k y0 y1 y2 y3 y4 y5 y6 y7 y8 y9) (gramaryeref22_node.j0 (k + 1) y0 y1 y2 y3 y4 y5 y6 y7 y8 y9)) ∧ (∀ y0 y1 y2 y3 y4 y5 y6 y7 y8 y9 y10, LeO (gramaryeref22_node.l0 k y0 y1 y2 y3 y4 y5 y6 y7 y8 y9 y10) (gramaryeref22_node.l0 (k + 1) y0 y1 y2 y3 y4 y5 y6 y7 y8 y9 y10))
 | 0 => ⟨fun _ _ _ _ r h => by simp [gramaryeref22_node.f] at h, fun _ _ _ _ _ _ _ _ _ _ r h => by simp [gramaryeref22_node.j0] at h, fun _ _ _ _ _ _ _ _ _ _ _ r h => by simp [gramaryeref22_node.l0] at h⟩
 | k + 1 => by
  obtain ⟨ih0, ih1, ih2⟩ := gramaryeref22_node.mono_l k
  refine ⟨?_, ?_, ?_⟩
  ·
   intro y0 y1 y2 y3
   unfold gramaryeref22_node.f
   repeat' first
   | (with_reducible exact ih0 _ _ _ _)
   | (with_reducible exact ih1 _ _ _ _ _ _ _ _ _ _)
   | (with_reducible exact ih2 _ _ _ _ _ _ _ _ _ _ _)
   | (with_reducible exact gramaryebase_Itoa.mono _ _)
   | (with_reducible exact LeO.refl _)
   | (with_reducible exact LeO.none _)
   | (with_reducible refine LeO.ite ?_ ?_)
   | (with_reducible refine LeO.bind ?_ (fun _ => ?_))
   | exact ih0 _ _ _ _
   | exact ih1 _ _ _ _ _ _ _ _ _ _
   | exact ih2 _ _ _ _ _ _ _ _ _ _ _
   | exact gramaryebase_Itoa.mono _ _
   | exact LeO.none _
   | refine LeO.ite ?_ ?_
   | refine LeO.bind ?_ (fun _ => ?_)
  ·
   intro y0 y1 y2 y3 y4 y5 y6 y7 y8 y9
   unfold gramaryeref22_node.j0
   repeat' first
   | (with_reducible exact ih0 _ _ _ _)
   | (with_reducible exact ih1 _ _ _ _ _ _ _ _ _ _)
   | (with_reducible exact ih2 _ _ _ _ _ _ _ _ _ _ _)
   | (with_reducible exact gramaryebase_Itoa.mono _ _)
   | (with_reducible exact LeO.refl _)
   | (with_reducible exact LeO.none _)
   | (with_reducible refine LeO.ite ?_ ?_)
   | (with_reducible refine LeO.bind ?_ (fun _ => ?_))
   | exact ih0 _ _ _ _
   | exact ih1 _ _ _ _ _ _ _ _ _ _
   | exact ih2 _ _ _ _ _ _ _ _ _ _ _
   | exact gramaryebase_Itoa.mono _ _
   | exact LeO.none _
   | refine LeO.ite ?_ ?_
   | refine LeO.bind ?_ (fun _ => ?_)
  ·
   intro y0 y1 y2 y3 y4 y5 y6 y7 y8 y9 y10
   unfold gramaryeref22_node.l0
   repeat' first
   | (with_reducible exact ih0 _ _ _ _)
   | (with_reducible exact ih1 _ _ _ _ _ _ _ _ _ _)
   | (with_reducible exact ih2 _ _ _ _ _ _ _ _ _ _ _)
   | (with_reducible exact gramaryebase_Itoa.mono _ _)
   | (with_reducible exact LeO.refl _)
   | (with_reducible exact LeO.none _)
   | (with_reducible refine LeO.ite ?_ ?_)
   | (with_reducible refine LeO.bind ?_ (fun _ => ?_))
   | exact ih0 _ _ _ _
   | exact ih1 _ _ _ _ _ _ _ _ _ _
   | exact ih2 _ _ _ _ _ _ _ _ _ _ _
   | exact gramaryebase_Itoa.mono _ _
   | exact LeO.none _
   | refine LeO.ite ?_ ?_
   | refine LeO.bind ?_ (fun _ => ?_)
theorem gramaryeref22_node.mono : ∀ a0 a1 a2 a3 k, LeO (gramaryeref22_node.f k a0 a1 a2 a3) (gramaryeref22_node.f (k + 1) a0 a1 a2 a3) := by
 intro a0 a1 a2 a3 k
 obtain ⟨ih0, ih1, ih2⟩ := gramaryeref22_node.mono_l k
 exact ih0 a0 a1 a2 a3
def gramaryeref22_node.T11 : Bool × List (List Nat × List Nat) := (true, [([], []), ([], []), ([], []), ([2], [2]), ([], []), ([3, 4], [3, 4]), ([5], [5]), ([], []), ([], []), ([1, 6, 7, 8], [1, 6, 7, 8]), ([9], [9]), ([0, 10], [0, 10]), ([11, 9, 0, 1, 2, 3, 4, 5, 6, 7, 8, 9, 10, 11], [0, 11])])
def gramaryeref22_node.B11 : List Nat := [0, 0, 0, 4, 0, 28, 60, 0, 0, 510, 1022, 2047, 4095]
theorem gramaryeref22_node.tab11 : rtab .any (opsOf Tryd.f51 11) = gramaryeref22_node.T11 := by kernel_rfl
theorem gramaryeref22_node.bits11 : waitsOk gramaryeref22_node.T11.2 gramaryeref22_node.B11 = true := by kernel_rfl
def gramaryeref22_node.T16 : Bool × List (List Nat × List Nat) := (true, [([], []), ([0], [0]), ([], []), ([2], [2]), ([3], [3]), ([1, 4], [1, 4]), ([5], [5]), ([], []), ([7], [7]), ([8, 4], [8]), ([6, 9], [6, 9]), ([10], [10]), ([11, 9, 0, 1, 2, 3, 4, 5, 6, 7, 8, 9, 10, 11], [11])])
def gramaryeref22_node.B16 : List Nat := [0, 1, 0, 4, 12, 31, 63, 0, 128, 412, 1023, 2047, 4095]
theorem gramaryeref22_node.tab16 : rtab .any (opsOf Tryd.f51 16) = gramaryeref22_node.T16 := by kernel_rfl
theorem gramaryeref22_node.bits16 : waitsOk gramaryeref22_node.T16.2 gramaryeref22_node.B16 = true := by kernel_rfl
set_option maxHeartbeats 8000000 in
set_option maxRecDepth 100000 in
theorem gramaryeref22_node.calls (k : Nat) : ∀ (A0_0 : Option Addr) (c0_0 : Nat) (l0_0 : List (S33)) (a1 : Int) (A2 : Option Addr) (c2 : Nat) (l2 : List ByteArray) (A3 : Option Addr) (c3 : Nat) (l3 : List ByteArray) (r : ByteArray) (w : World) (hr0_0 : Kd.C k33 w A0_0 l0_0.length l0_0) (hc0_0 : l0_0.length ≤ c0_0) (hr2 : Kd.C Kd.string w A2 l2.length l2) (hc2 : l2.length ≤ c2) (hr3 : Kd.C Kd.string w A3 l3.length l3) (hc3 : l3.length ≤ c3) (h : gramaryeref22_node.f k l0_0 a1 l2 l3 = some r),
  Calls Tryd.prog 51 #[.agg #[.slice A0_0 l0_0.length c0_0], .int .i64 a1, .slice A2 l2.length c2, .slice A3 l3.length c3] w fun e w' => e = .returned (.string r) ∧ Below w.heap.size w w' := by
 induction k using Nat.strongRecOn with
 | _ k ih =>
 intro A0_0 c0_0 l0_0 a1 A2 c2 l2 A3 c3 l3 r w hr0_0 hc0_0 hr2 hc2 hr3 hc3 h
 cases k with
 | zero => exact absurd h (by simp [gramaryeref22_node.f])
 | succ k =>
 simp only [gramaryeref22_node.f] at h
 have hu24 := Tryd.underlying24
 have hu33 := Tryd.underlying33
 have HR0_0 := Aside0.mk hr0_0
 have HC0_0 := Aside0.mk hc0_0
 clear hr0_0 hc0_0
 have HR2 := Aside0.mk hr2
 have HC2 := Aside0.mk hc2
 clear hr2 hc2
 have HR3 := Aside0.mk hr3
 have HC3 := Aside0.mk hc3
 clear hr3 hc3
 have HB := Aside0.mk (Below.refl w.heap.size w)
 have H : (if 0 ≤ a1 then (if a1 < (l0_0.length : Int) then (if ((rd_T33 l0_0 a1).f4).toList = ([] : List UInt8) then (gramaryeref22_node.j0 k l2 l3 (⟨#[]⟩ : ByteArray) l0_0 ((rd_T33 l0_0 a1).f0) ((rd_T33 l0_0 a1).f1) ((rd_T33 l0_0 a1).f2) ((rd_T33 l0_0 a1).f3) ((rd_T33 l0_0 a1).f4) ((rd_T33 l0_0 a1).f5)) else (if ((rd_T33 l0_0 a1).f4).size + 1 ≤ 9223372036854775807 then (gramaryeref22_node.j0 k l2 l3 (((rd_T33 l0_0 a1).f4) ++ (⟨#[58]⟩ : ByteArray)) l0_0 ((rd_T33 l0_0 a1).f0) ((rd_T33 l0_0 a1).f1) ((rd_T33 l0_0 a1).f2) ((rd_T33 l0_0 a1).f3) ((rd_T33 l0_0 a1).f4) ((rd_T33 l0_0 a1).f5)) else (none))) else (none)) else (none)) = some r := h
 clear h
 by_cases c5 : 0 ≤ a1
 ·
  rw [if_pos c5] at H
  have c5b0 : decide (0 ≤ a1) = true := decide_eq_true c5
  clear c5
  by_cases c6 : a1 < (l0_0.length : Int)
  ·
   rw [if_pos c6] at H
   have c6b0 : decide (a1 < (l0_0.length : Int)) = true := decide_eq_true c6
   clear c6
   have HC7 := Aside0.mk H
   clear H
   go_enter Tryd.func51, Tryd.ntmps51
   go_upto_if 19 with (first | ((with_reducible refine gate_dst (N := 4) rfl ?_); refine box_event ?hg (N := 4) ?hd (cs := #[.slice A0_0 l0_0.length c0_0]) (t := 24) ?hr ?_; (case hd => rfl); (case hg => rfl); (case hr => first | (go_simp; done) | (go_simp; rfl)); intro gb235 hg w8 hbox hb; have n0_ := Aside0.mk (below_step (by repeat (first | (with_reducible first | exact HB.out | apply below_alloc | apply pw_below_drewN | apply below_drew1) | exact HB.out)) hb); have n1_ := Aside0.mk (hbox); have n2_ := Aside0.mk ((by rw [hg]; exact (below_size (by repeat (first | (with_reducible first | exact HB.out | apply below_alloc | apply pw_below_drewN | apply below_drew1) | exact HB.out))) : w.heap.size ≤ gb235)); have n3_ := Aside0.mk ((by rw [hg]; exact (below_size (by repeat (first | (with_reducible first | exact HB.out | apply below_alloc | apply pw_below_drewN | apply below_drew1) | exact HB.out))) : w.heap.size ≤ gb235)); clear HB; have HB := n0_; have BK235 := n1_; have GW235 := n2_; have GE235 := n3_; clear n0_ n1_ n2_ n3_; clear hb hbox hg; have hcz9_0 : w8.cell? ⟨gb235, 0, none⟩ = some (.slice A0_0 l0_0.length c0_0) := (blk_cell BK235.out 0).trans rfl; have hfz9_0 := blk_frozen BK235.out 0; have p236 : 0 ≤ (a1 : Int) := of_decide_eq_true (by first | (with_reducible assumption) | assumption); have q236 : a1 < (l0_0.length : Int) := of_decide_eq_true (by first | (with_reducible assumption) | assumption); obtain ⟨ad236, A236_5, c236_5, e236, hx236_0, hx236_1, hx236_2, hx236_3, hx236_4, hx236_5, hl236_5, hi236_5⟩ := at_T33 HR0_0.out a1 p236 q236; cases e236; replace hx236_0 := (HB.out.cell (World.block_lt_of_cell? w _ hx236_0)).trans hx236_0; replace hx236_1 := (HB.out.cell (World.block_lt_of_cell? w _ hx236_1)).trans hx236_1; replace hx236_2 := (HB.out.cell (World.block_lt_of_cell? w _ hx236_2)).trans hx236_2; replace hx236_3 := (HB.out.cell (World.block_lt_of_cell? w _ hx236_3)).trans hx236_3; replace hx236_4 := (HB.out.cell (World.block_lt_of_cell? w _ hx236_4)).trans hx236_4; replace hx236_5 := (HB.out.cell (World.block_lt_of_cell? w _ hx236_5)).trans hx236_5; have HR236_5 := Aside0.mk hi236_5; have HC236_5 := Aside0.mk hl236_5; clear hi236_5 hl236_5; replace p236 := eq_true p236; replace q236 := eq_true q236) | ((with_reducible refine gate_dst (N := 9) rfl ?_); refine box_event ?hg (N := 9) ?hd (cs := #[.int .i64 0, .int .i64 0, .int .i64 0, .int .i64 0, .string (⟨#[]⟩ : ByteArray), .slice none 0 0]) (t := 33) ?hr ?_; (case hd => rfl); (case hg => rfl); (case hr => first | (go_simp; done) | (go_simp; rfl)); intro gb237 hg w10 hbox hb; have n0_ := Aside0.mk (blk_below (g := gb235) (o := .cells #[.slice (some ad236) l0_0.length c0_0] 24 (0, 0)) (by (with_reducible repeat (first | refine blk_drewN ?_ _ | refine blk_drew ?_ | refine blk_alloc ?_ _)); exact BK235.out) hb); have n1_ := Aside0.mk (below_step (by repeat (first | (with_reducible first | exact HB.out | apply below_alloc | apply pw_below_drewN | apply below_drew1 | refine below_set ?_ GE235.out) | exact HB.out)) hb); have n2_ := Aside0.mk (hbox); have n3_ := Aside0.mk ((by rw [hg]; exact (below_size (by repeat (first | (with_reducible first | exact HB.out | apply below_alloc | apply pw_below_drewN | apply below_drew1 | refine below_set ?_ GE235.out) | exact HB.out))) : w.heap.size ≤ gb237)); have n4_ := Aside0.mk ((by rw [hg]; exact (below_size (by repeat (first | (with_reducible first | exact HB.out | apply below_alloc | apply pw_below_drewN | apply below_drew1 | refine below_set ?_ GE235.out) | exact HB.out))) : w.heap.size ≤ gb237)); have n5_ := Aside0.mk ((by rw [hg]; exact Nat.ne_of_lt (blk_lt (g := gb235) (o := .cells #[.slice (some ad236) l0_0.length c0_0] 24 (0, 0)) (by (with_reducible repeat (first | refine blk_drewN ?_ _ | refine blk_drew ?_ | refine blk_alloc ?_ _)); exact BK235.out)) : gb235 ≠ gb237)); have n6_ := Aside0.mk ((by rw [hg]; exact Nat.ne_of_gt (blk_lt (g := gb235) (o := .cells #[.slice (some ad236) l0_0.length c0_0] 24 (0, 0)) (by (with_reducible repeat (first | refine blk_drewN ?_ _ | refine blk_drew ?_ | refine blk_alloc ?_ _)); exact BK235.out)) : gb237 ≠ gb235)); clear BK235; clear HB; have BK235 := n0_; have HB := n1_; have BK237 := n2_; have GW237 := n3_; have GE237 := n4_; have NB235_237 := n5_; have NB237_235 := n6_; clear n0_ n1_ n2_ n3_ n4_ n5_ n6_; clear hb hbox hg; have hnb11 := NB237_235.out; have hnc11 := NB235_237.out; have hcz12_0 : w10.cell? ⟨gb237, 0, none⟩ = some (.int .i64 0) := (blk_cell BK237.out 0).trans rfl; have hcz12_1 : w10.cell? ⟨gb237, 1, none⟩ = some (.int .i64 0) := (blk_cell BK237.out 1).trans rfl; have hcz12_2 : w10.cell? ⟨gb237, 2, none⟩ = some (.int .i64 0) := (blk_cell BK237.out 2).trans rfl; have hcz12_3 : w10.cell? ⟨gb237, 3, none⟩ = some (.int .i64 0) := (blk_cell BK237.out 3).trans rfl; have hcz12_4 : w10.cell? ⟨gb237, 4, none⟩ = some (.string (⟨#[]⟩ : ByteArray)) := (blk_cell BK237.out 4).trans rfl; have hcz12_5 : w10.cell? ⟨gb237, 5, none⟩ = some (.slice none 0 0) := (blk_cell BK237.out 5).trans rfl; have hfz12_0 := blk_frozen BK237.out 0; have hfz12_1 := blk_frozen BK237.out 1; have hfz12_2 := blk_frozen BK237.out 2; have hfz12_3 := blk_frozen BK237.out 3; have hfz12_4 := blk_frozen BK237.out 4; have hfz12_5 := blk_frozen BK237.out 5))
   (try simp only [Act.put, List.setIfInBounds_toArray, List.set_cons_zero, List.set_cons_succ])
   go_cut [10] (fun v10 wc => ∃ (kq : Nat) (x10_6 : ByteArray), v10 = .string x10_6 ∧ Aside0 (gramaryeref22_node.j0 kq l2 l3 x10_6 l0_0 ((rd_T33 l0_0 a1).f0) ((rd_T33 l0_0 a1).f1) ((rd_T33 l0_0 a1).f2) ((rd_T33 l0_0 a1).f3) ((rd_T33 l0_0 a1).f4) ((rd_T33 l0_0 a1).f5) = some r) ∧ Aside0 (kq ≤ k) ∧ Aside0 (wc.heap[gb235]? = some (.cells #[(.slice (some ad236) l0_0.length c0_0)] 24 (0, 0))) ∧ Aside0 (wc.heap[gb237]? = some (.cells #[.int .i64 ((rd_T33 l0_0 a1).f0), .int .i64 ((rd_T33 l0_0 a1).f1), .int .i64 ((rd_T33 l0_0 a1).f2), .int .i64 ((rd_T33 l0_0 a1).f3), .string ((rd_T33 l0_0 a1).f4), (.slice A236_5 ((rd_T33 l0_0 a1).f5).length c236_5)] 33 (0, 0))) ∧ Aside0 (Below w.heap.size w wc))
   case first =>
    have H := HC7.out
    clear HC7
    by_cases c13 : ((rd_T33 l0_0 a1).f4).toList = ([] : List UInt8)
    ·
     rw [if_pos c13] at H
     have c13b0 : (((rd_T33 l0_0 a1).f4).toList == ([] : List UInt8)) = true := beq_iff_eq.mpr c13
     have c13b1 : (((rd_T33 l0_0 a1).f4).toList != ([] : List UInt8)) = false := bne_eq_false_iff_eq.mpr c13
     have c13b2 : (((rd_T33 l0_0 a1).f4).toList).isEmpty = true := by have z_ := c13b1; simpa using z_
     clear c13
     (first | rw [c13b2] | rw [c13b0] | (simp only [i64_w, i32_w]; rw [c13b0]) | skip)
     have H' := Aside0.mk H
     clear H
     go_wp2
     go_meet
     case rel => exact ⟨_, ((⟨#[]⟩ : ByteArray)), (by first | rfl | (simp; done) | (simp [*]; done)), H', ⟨by first | omega | exact Nat.le_refl _⟩, ⟨by (with_reducible repeat (first | refine blk_drewN ?_ _ | refine blk_drew ?_ | refine blk_alloc ?_ _)); refine blk_far ?_ NB235_237.out _; (with_reducible repeat (first | refine blk_drewN ?_ _ | refine blk_drew ?_ | refine blk_alloc ?_ _)); refine blk_far ?_ NB235_237.out _; (with_reducible repeat (first | refine blk_drewN ?_ _ | refine blk_drew ?_ | refine blk_alloc ?_ _)); refine blk_far ?_ NB235_237.out _; (with_reducible repeat (first | refine blk_drewN ?_ _ | refine blk_drew ?_ | refine blk_alloc ?_ _)); refine blk_far ?_ NB235_237.out _; (with_reducible repeat (first | refine blk_drewN ?_ _ | refine blk_drew ?_ | refine blk_alloc ?_ _)); refine blk_far ?_ NB235_237.out _; (with_reducible repeat (first | refine blk_drewN ?_ _ | refine blk_drew ?_ | refine blk_alloc ?_ _)); refine blk_far ?_ NB235_237.out _; (with_reducible repeat (first | refine blk_drewN ?_ _ | refine blk_drew ?_ | refine blk_alloc ?_ _)); exact BK235.out⟩, ⟨by (with_reducible repeat (first | refine blk_drewN ?_ _ | refine blk_drew ?_ | refine blk_alloc ?_ _)); refine blk_put (cs := #[.int .i64 ((rd_T33 l0_0 a1).f0), .int .i64 ((rd_T33 l0_0 a1).f1), .int .i64 ((rd_T33 l0_0 a1).f2), .int .i64 ((rd_T33 l0_0 a1).f3), .string ((rd_T33 l0_0 a1).f4), .slice none 0 0]) ?_ 5 _ rfl; (with_reducible repeat (first | refine blk_drewN ?_ _ | refine blk_drew ?_ | refine blk_alloc ?_ _)); refine blk_put (cs := #[.int .i64 ((rd_T33 l0_0 a1).f0), .int .i64 ((rd_T33 l0_0 a1).f1), .int .i64 ((rd_T33 l0_0 a1).f2), .int .i64 ((rd_T33 l0_0 a1).f3), .string (⟨#[]⟩ : ByteArray), .slice none 0 0]) ?_ 4 _ rfl; (with_reducible repeat (first | refine blk_drewN ?_ _ | refine blk_drew ?_ | refine blk_alloc ?_ _)); refine blk_put (cs := #[.int .i64 ((rd_T33 l0_0 a1).f0), .int .i64 ((rd_T33 l0_0 a1).f1), .int .i64 ((rd_T33 l0_0 a1).f2), .int .i64 0, .string (⟨#[]⟩ : ByteArray), .slice none 0 0]) ?_ 3 _ rfl; (with_reducible repeat (first | refine blk_drewN ?_ _ | refine blk_drew ?_ | refine blk_alloc ?_ _)); refine blk_put (cs := #[.int .i64 ((rd_T33 l0_0 a1).f0), .int .i64 ((rd_T33 l0_0 a1).f1), .int .i64 0, .int .i64 0, .string (⟨#[]⟩ : ByteArray), .slice none 0 0]) ?_ 2 _ rfl; (with_reducible repeat (first | refine blk_drewN ?_ _ | refine blk_drew ?_ | refine blk_alloc ?_ _)); refine blk_put (cs := #[.int .i64 ((rd_T33 l0_0 a1).f0), .int .i64 0, .int .i64 0, .int .i64 0, .string (⟨#[]⟩ : ByteArray), .slice none 0 0]) ?_ 1 _ rfl; (with_reducible repeat (first | refine blk_drewN ?_ _ | refine blk_drew ?_ | refine blk_alloc ?_ _)); refine blk_put (cs := #[.int .i64 0, .int .i64 0, .int .i64 0, .int .i64 0, .string (⟨#[]⟩ : ByteArray), .slice none 0 0]) ?_ 0 _ rfl; (with_reducible repeat (first | refine blk_drewN ?_ _ | refine blk_drew ?_ | refine blk_alloc ?_ _)); exact BK237.out⟩, ⟨by repeat (first | (with_reducible first | exact HB.out | apply below_alloc | apply pw_below_drewN | apply below_drew1 | refine below_set ?_ GE235.out | refine below_set ?_ GE237.out) | exact HB.out)⟩⟩
    ·
     rw [if_neg c13] at H
     have c13b0 : (((rd_T33 l0_0 a1).f4).toList == ([] : List UInt8)) = false := beq_eq_false_iff_ne.mpr c13
     have c13b1 : (((rd_T33 l0_0 a1).f4).toList != ([] : List UInt8)) = true := bne_iff_ne.mpr c13
     have c13b2 : (((rd_T33 l0_0 a1).f4).toList).isEmpty = false := by have z_ := c13b1; simpa using z_
     (first | rw [c13b2] | rw [c13b0] | (simp only [i64_w, i32_w]; rw [c13b0]) | skip)
     by_cases c14 : ((rd_T33 l0_0 a1).f4).size + 1 ≤ 9223372036854775807
     ·
      rw [if_pos c14] at H
      have c14b0 := eq_true c14
      have c14b1 : decide (((rd_T33 l0_0 a1).f4).size + 1 ≤ 9223372036854775807) = true := decide_eq_true c14
      try have c14b2 : (9223372036854775807 < ((rd_T33 l0_0 a1).f4).size + 1) = False := eq_false (Nat.not_lt.2 c14)
      have H' := Aside0.mk H
      clear H
      have hnb15 := NB237_235.out
      have hnc15 := NB235_237.out
      have hcz16_0 : w10.cell? ⟨gb237, 0, none⟩ = some (.int .i64 0) := (blk_cell BK237.out 0).trans rfl
      have hcz16_1 : w10.cell? ⟨gb237, 1, none⟩ = some (.int .i64 0) := (blk_cell BK237.out 1).trans rfl
      have hcz16_2 : w10.cell? ⟨gb237, 2, none⟩ = some (.int .i64 0) := (blk_cell BK237.out 2).trans rfl
      have hcz16_3 : w10.cell? ⟨gb237, 3, none⟩ = some (.int .i64 0) := (blk_cell BK237.out 3).trans rfl
      have hcz16_4 : w10.cell? ⟨gb237, 4, none⟩ = some (.string (⟨#[]⟩ : ByteArray)) := (blk_cell BK237.out 4).trans rfl
      have hcz16_5 : w10.cell? ⟨gb237, 5, none⟩ = some (.slice none 0 0) := (blk_cell BK237.out 5).trans rfl
      have hfz16_0 := blk_frozen BK237.out 0
      have hfz16_1 := blk_frozen BK237.out 1
      have hfz16_2 := blk_frozen BK237.out 2
      have hfz16_3 := blk_frozen BK237.out 3
      have hfz16_4 := blk_frozen BK237.out 4
      have hfz16_5 := blk_frozen BK237.out 5
      go_wp2
      go_meet
      case rel => exact ⟨_, (((rd_T33 l0_0 a1).f4) ++ (⟨#[58]⟩ : ByteArray)), (by first | rfl | (simp; done) | (simp [*]; done)), H', ⟨by first | omega | exact Nat.le_refl _⟩, ⟨by (with_reducible repeat (first | refine blk_drewN ?_ _ | refine blk_drew ?_ | refine blk_alloc ?_ _)); refine blk_far ?_ NB235_237.out _; (with_reducible repeat (first | refine blk_drewN ?_ _ | refine blk_drew ?_ | refine blk_alloc ?_ _)); refine blk_far ?_ NB235_237.out _; (with_reducible repeat (first | refine blk_drewN ?_ _ | refine blk_drew ?_ | refine blk_alloc ?_ _)); refine blk_far ?_ NB235_237.out _; (with_reducible repeat (first | refine blk_drewN ?_ _ | refine blk_drew ?_ | refine blk_alloc ?_ _)); refine blk_far ?_ NB235_237.out _; (with_reducible repeat (first | refine blk_drewN ?_ _ | refine blk_drew ?_ | refine blk_alloc ?_ _)); refine blk_far ?_ NB235_237.out _; (with_reducible repeat (first | refine blk_drewN ?_ _ | refine blk_drew ?_ | refine blk_alloc ?_ _)); refine blk_far ?_ NB235_237.out _; (with_reducible repeat (first | refine blk_drewN ?_ _ | refine blk_drew ?_ | refine blk_alloc ?_ _)); exact BK235.out⟩, ⟨by (with_reducible repeat (first | refine blk_drewN ?_ _ | refine blk_drew ?_ | refine blk_alloc ?_ _)); refine blk_put (cs := #[.int .i64 ((rd_T33 l0_0 a1).f0), .int .i64 ((rd_T33 l0_0 a1).f1), .int .i64 ((rd_T33 l0_0 a1).f2), .int .i64 ((rd_T33 l0_0 a1).f3), .string ((rd_T33 l0_0 a1).f4), .slice none 0 0]) ?_ 5 _ rfl; (with_reducible repeat (first | refine blk_drewN ?_ _ | refine blk_drew ?_ | refine blk_alloc ?_ _)); refine blk_put (cs := #[.int .i64 ((rd_T33 l0_0 a1).f0), .int .i64 ((rd_T33 l0_0 a1).f1), .int .i64 ((rd_T33 l0_0 a1).f2), .int .i64 ((rd_T33 l0_0 a1).f3), .string (⟨#[]⟩ : ByteArray), .slice none 0 0]) ?_ 4 _ rfl; (with_reducible repeat (first | refine blk_drewN ?_ _ | refine blk_drew ?_ | refine blk_alloc ?_ _)); refine blk_put (cs := #[.int .i64 ((rd_T33 l0_0 a1).f0), .int .i64 ((rd_T33 l0_0 a1).f1), .int .i64 ((rd_T33 l0_0 a1).f2), .int .i64 0, .string (⟨#[]⟩ : ByteArray), .slice none 0 0]) ?_ 3 _ rfl; (with_reducible repeat (first | refine blk_drewN ?_ _ | refine blk_drew ?_ | refine blk_alloc ?_ _)); refine blk_put (cs := #[.int .i64 ((rd_T33 l0_0 a1).f0), .int .i64 ((rd_T33 l0_0 a1).f1), .int .i64 0, .int .i64 0, .string (⟨#[]⟩ : ByteArray), .slice none 0 0]) ?_ 2 _ rfl; (with_reducible repeat (first | refine blk_drewN ?_ _ | refine blk_drew ?_ | refine blk_alloc ?_ _)); refine blk_put (cs := #[.int .i64 ((rd_T33 l0_0 a1).f0), .int .i64 0, .int .i64 0, .int .i64 0, .string (⟨#[]⟩ : ByteArray), .slice none 0 0]) ?_ 1 _ rfl; (with_reducible repeat (first | refine blk_drewN ?_ _ | refine blk_drew ?_ | refine blk_alloc ?_ _)); refine blk_put (cs := #[.int .i64 0, .int .i64 0, .int .i64 0, .int .i64 0, .string (⟨#[]⟩ : ByteArray), .slice none 0 0]) ?_ 0 _ rfl; (with_reducible repeat (first | refine blk_drewN ?_ _ | refine blk_drew ?_ | refine blk_alloc ?_ _)); exact BK237.out⟩, ⟨by repeat (first | (with_reducible first | exact HB.out | apply below_alloc | apply pw_below_drewN | apply below_drew1 | refine below_set ?_ GE235.out | refine below_set ?_ GE237.out) | exact HB.out)⟩⟩
     ·
      rw [if_neg c14] at H
      exact absurd H (by simp)
   case rest =>
    clear HC7
    try clear c1
    try clear c2
    try clear p2
    try clear q2
    try clear hx2
    try clear c3
    try clear c5
    try clear c5b0
    try clear c6
    try clear c6b0
    try clear c11
    try clear c13
    try clear c13b0
    try clear c13b1
    try clear c14
    try clear c14b0
    try clear c14b1
    try clear c14b2
    try clear c15
    try clear hcz12_0
    try clear hcz12_1
    try clear hcz12_2
    try clear hcz12_3
    try clear hcz12_4
    try clear hcz12_5
    try clear hcz16_0
    try clear hcz16_1
    try clear hcz16_2
    try clear hcz16_3
    try clear hcz16_4
    try clear hcz16_5
    try clear hcz9_0
    try clear hfz12_0
    try clear hfz12_1
    try clear hfz12_2
    try clear hfz12_3
    try clear hfz12_4
    try clear hfz12_5
    try clear hfz16_0
    try clear hfz16_1
    try clear hfz16_2
    try clear hfz16_3
    try clear hfz16_4
    try clear hfz16_5
    try clear hfz9_0
    try clear hx236_0
    try clear hx236_1
    try clear hx236_2
    try clear hx236_3
    try clear hx236_4
    try clear hx236_5
    try clear p236
    try clear q236
    obtain ⟨kq, x10_6, rfl, HA, HJ6, BK235, BK237, HB⟩ := hcut
    cases kq with
    | zero => exact absurd HA.out (by simp [gramaryeref22_node.j0])
    | succ kj6 =>
     have H := HA.out
     clear HA
     simp only [gramaryeref22_node.j0] at H
     by_cases c17 : ((rd_T33 l0_0 a1).f0) = 1
     ·
      rw [if_pos c17] at H
      have c17b0 : (((rd_T33 l0_0 a1).f0) == 1) = true := beq_iff_eq.mpr c17
      have c17b1 : (((rd_T33 l0_0 a1).f0) != 1) = false := bne_eq_false_iff_eq.mpr c17
      clear c17
      replace H := Option.bind_eq_some_iff.mp H
      obtain ⟨t238, A180, H⟩ := H
      replace H : (if 1 + t238.size ≤ 9223372036854775807 then (if x10_6.size + ((⟨#[40]⟩ : ByteArray) ++ t238).size ≤ 9223372036854775807 then (gramaryeref22_node.l0 kj6 l2 l3 (x10_6 ++ ((⟨#[40]⟩ : ByteArray) ++ t238)) 0 l0_0 ((rd_T33 l0_0 a1).f0) ((rd_T33 l0_0 a1).f1) ((rd_T33 l0_0 a1).f2) ((rd_T33 l0_0 a1).f3) ((rd_T33 l0_0 a1).f4) ((rd_T33 l0_0 a1).f5)) else (none)) else (none)) = some r := H
      have A18 := Aside0.mk A180
      clear A180
      by_cases c19 : 1 + t238.size ≤ 9223372036854775807
      ·
       rw [if_pos c19] at H
       have c19b0 := eq_true c19
       have c19b1 : decide (1 + t238.size ≤ 9223372036854775807) = true := decide_eq_true c19
       try have c19b2 : (9223372036854775807 < 1 + t238.size) = False := eq_false (Nat.not_lt.2 c19)
       by_cases c20 : x10_6.size + ((⟨#[40]⟩ : ByteArray) ++ t238).size ≤ 9223372036854775807
       ·
        rw [if_pos c20] at H
        have c20b0 := eq_true c20
        have c20b1 : decide (x10_6.size + ((⟨#[40]⟩ : ByteArray) ++ t238).size ≤ 9223372036854775807) = true := decide_eq_true c20
        try have c20b2 : (9223372036854775807 < x10_6.size + ((⟨#[40]⟩ : ByteArray) ++ t238).size) = False := eq_false (Nat.not_lt.2 c20)
        have c20b4 : (9223372036854775807 < x10_6.size + (1 + t238.size)) = False := by have z_ := c20; simp only [ByteArray.size_append] at z_; exact eq_false (Nat.not_lt.2 z_)
        have H' := Aside0.mk H
        clear H
        have hnb21 := NB237_235.out
        have hnc21 := NB235_237.out
        have hcz22_0 : wc.cell? ⟨gb237, 0, none⟩ = some (.int .i64 ((rd_T33 l0_0 a1).f0)) := (blk_cell BK237.out 0).trans rfl
        have hcz22_1 : wc.cell? ⟨gb237, 1, none⟩ = some (.int .i64 ((rd_T33 l0_0 a1).f1)) := (blk_cell BK237.out 1).trans rfl
        have hcz22_2 : wc.cell? ⟨gb237, 2, none⟩ = some (.int .i64 ((rd_T33 l0_0 a1).f2)) := (blk_cell BK237.out 2).trans rfl
        have hcz22_3 : wc.cell? ⟨gb237, 3, none⟩ = some (.int .i64 ((rd_T33 l0_0 a1).f3)) := (blk_cell BK237.out 3).trans rfl
        have hcz22_4 : wc.cell? ⟨gb237, 4, none⟩ = some (.string ((rd_T33 l0_0 a1).f4)) := (blk_cell BK237.out 4).trans rfl
        have hcz22_5 : wc.cell? ⟨gb237, 5, none⟩ = some (.slice A236_5 ((rd_T33 l0_0 a1).f5).length c236_5) := (blk_cell BK237.out 5).trans rfl
        have hfz22_0 := blk_frozen BK237.out 0
        have hfz22_1 := blk_frozen BK237.out 1
        have hfz22_2 := blk_frozen BK237.out 2
        have hfz22_3 := blk_frozen BK237.out 3
        have hfz22_4 := blk_frozen BK237.out 4
        have hfz22_5 := blk_frozen BK237.out 5
        go_wp2_with (first | ((with_reducible refine gate_callee (f := 81) rfl ?_); refine goesL_ (some 31) rfl rfl Tryd.func81 (by kernel_rfl) rfl #[.slice A2 l2.length c2, .int .i64 ((rd_T33 l0_0 a1).f1)] rfl (by (try simp only [List.map_toArray, List.map_cons, List.map_nil]); first | done | rfl | (simp only [List.length_drop, List.length_take]; rfl)) ?_; (with_reducible refine (gramaryeref22_of.calls _ _ l2 ((rd_T33 l0_0 a1).f1) t238 _ ?side1 ?side2 A18.out).mono ?_); (case side1 => repeat (first | exact (Kd.C_below HR2.out HB.out) | (with_reducible refine Kd.C_alloc ?_ _) | (with_reducible refine Kd.C_drewN ?_ _) | (with_reducible refine Kd.C_drew ?_))); (case side2 => exact HC2.out); rintro e w' ⟨rfl, ⟨nd, rfl⟩⟩; refine ⟨_, rfl, ?_⟩))
        go_loopg [10, 11] kj6 (fun kq v10 v11 w' => ∃ (x10_2 : ByteArray) (x11_2 : Int), v10 = .string x10_2 ∧ v11 = .int .i64 x11_2 ∧ Aside0 (gramaryeref22_node.l0 kq l2 l3 x10_2 x11_2 l0_0 ((rd_T33 l0_0 a1).f0) ((rd_T33 l0_0 a1).f1) ((rd_T33 l0_0 a1).f2) ((rd_T33 l0_0 a1).f3) ((rd_T33 l0_0 a1).f4) ((rd_T33 l0_0 a1).f5) = some r) ∧ Aside0 (kq ≤ kj6) ∧ Aside0 (w'.heap[gb235]? = some (.cells #[(.slice (some ad236) l0_0.length c0_0)] 24 (0, 0))) ∧ Aside0 (w'.heap[gb237]? = some (.cells #[.int .i64 ((rd_T33 l0_0 a1).f0), .int .i64 ((rd_T33 l0_0 a1).f1), .int .i64 ((rd_T33 l0_0 a1).f2), .int .i64 ((rd_T33 l0_0 a1).f3), .string ((rd_T33 l0_0 a1).f4), (.slice A236_5 ((rd_T33 l0_0 a1).f5).length c236_5)] 33 (0, 0))) ∧ Aside0 (Below w.heap.size w w'))
        case atStart => exact ⟨(x10_6 ++ ((⟨#[40]⟩ : ByteArray) ++ t238)), (0), (by first | rfl | (simp; done) | (simp [*]; done)), (by first | rfl | (simp; done) | (simp [*]; done)), H', ⟨Nat.le_refl _⟩, ⟨by (with_reducible repeat (first | refine blk_drewN ?_ _ | refine blk_drew ?_ | refine blk_alloc ?_ _)); exact BK235.out⟩, ⟨by (with_reducible repeat (first | refine blk_drewN ?_ _ | refine blk_drew ?_ | refine blk_alloc ?_ _)); exact BK237.out⟩, ⟨by repeat (first | (with_reducible first | exact HB.out | apply below_alloc | apply pw_below_drewN | apply below_drew1 | refine below_set ?_ GE235.out | refine below_set ?_ GE237.out) | exact HB.out)⟩⟩
        case round =>
         clear H'
         try clear c1
         try clear c2
         try clear p2
         try clear q2
         try clear hx2
         try clear c3
         try clear c5
         try clear c5b0
         try clear c6
         try clear c6b0
         try clear c8
         try clear c11
         try clear c13
         try clear c13b0
         try clear c13b1
         try clear c14
         try clear c14b0
         try clear c14b1
         try clear c14b2
         try clear c15
         try clear c17
         try clear c17b0
         try clear c17b1
         try clear c19
         try clear c19b0
         try clear c19b1
         try clear c19b2
         try clear c20
         try clear c20b0
         try clear c20b1
         try clear c20b2
         try clear c21
         try clear hcz12_0
         try clear hcz12_1
         try clear hcz12_2
         try clear hcz12_3
         try clear hcz12_4
         try clear hcz12_5
         try clear hcz16_0
         try clear hcz16_1
         try clear hcz16_2
         try clear hcz16_3
         try clear hcz16_4
         try clear hcz16_5
         try clear hcz22_0
         try clear hcz22_1
         try clear hcz22_2
         try clear hcz22_3
         try clear hcz22_4
         try clear hcz22_5
         try clear hcz9_0
         try clear hfz12_0
         try clear hfz12_1
         try clear hfz12_2
         try clear hfz12_3
         try clear hfz12_4
         try clear hfz12_5
         try clear hfz16_0
         try clear hfz16_1
         try clear hfz16_2
         try clear hfz16_3
         try clear hfz16_4
         try clear hfz16_5
         try clear hfz22_0
         try clear hfz22_1
         try clear hfz22_2
         try clear hfz22_3
         try clear hfz22_4
         try clear hfz22_5
         try clear hfz9_0
         try clear hx236_0
         try clear hx236_1
         try clear hx236_2
         try clear hx236_3
         try clear hx236_4
         try clear hx236_5
         try clear p2
         try clear p236
         try clear q2
         try clear q236
         obtain ⟨x10_2, x11_2, rfl, rfl, HA, HK2, BK235, BK237, HB⟩ := hrel
         cases gk with
         | zero => exact absurd HA.out (by simp [gramaryeref22_node.l0])
         | succ k2 =>
          have H := HA.out
          clear HA
          simp only [gramaryeref22_node.l0] at H
          by_cases c23 : x11_2 < (((rd_T33 l0_0 a1).f5).length : Int)
          ·
           rw [if_pos c23] at H
           have c23b0 : decide (x11_2 < (((rd_T33 l0_0 a1).f5).length : Int)) = true := decide_eq_true c23
           clear c23
           by_cases c24 : 0 ≤ x11_2
           ·
            rw [if_pos c24] at H
            have c24b0 : decide (0 ≤ x11_2) = true := decide_eq_true c24
            clear c24
            replace H := Option.bind_eq_some_iff.mp H
            obtain ⟨t240, A250, H⟩ := H
            replace H : (if 1 + t240.size ≤ 9223372036854775807 then (if x10_2.size + ((⟨#[32]⟩ : ByteArray) ++ t240).size ≤ 9223372036854775807 then (gramaryeref22_node.l0 k2 l2 l3 (x10_2 ++ ((⟨#[32]⟩ : ByteArray) ++ t240)) (wrap64 (x11_2 + 1)) l0_0 ((rd_T33 l0_0 a1).f0) ((rd_T33 l0_0 a1).f1) ((rd_T33 l0_0 a1).f2) ((rd_T33 l0_0 a1).f3) ((rd_T33 l0_0 a1).f4) ((rd_T33 l0_0 a1).f5)) else (none)) else (none)) = some r := H
            have A25 := Aside0.mk A250
            clear A250
            by_cases c26 : 1 + t240.size ≤ 9223372036854775807
            ·
             rw [if_pos c26] at H
             have c26b0 := eq_true c26
             have c26b1 : decide (1 + t240.size ≤ 9223372036854775807) = true := decide_eq_true c26
             try have c26b2 : (9223372036854775807 < 1 + t240.size) = False := eq_false (Nat.not_lt.2 c26)
             by_cases c27 : x10_2.size + ((⟨#[32]⟩ : ByteArray) ++ t240).size ≤ 9223372036854775807
             ·
              rw [if_pos c27] at H
              have c27b0 := eq_true c27
              have c27b1 : decide (x10_2.size + ((⟨#[32]⟩ : ByteArray) ++ t240).size ≤ 9223372036854775807) = true := decide_eq_true c27
              try have c27b2 : (9223372036854775807 < x10_2.size + ((⟨#[32]⟩ : ByteArray) ++ t240).size) = False := eq_false (Nat.not_lt.2 c27)
              have c27b4 : (9223372036854775807 < x10_2.size + (1 + t240.size)) = False := by have z_ := c27; simp only [ByteArray.size_append] at z_; exact eq_false (Nat.not_lt.2 z_)
              have H' := Aside0.mk H
              clear H
              have hnb28 := NB237_235.out
              have hnc28 := NB235_237.out
              have hcz29_0 : wr.cell? ⟨gb237, 0, none⟩ = some (.int .i64 ((rd_T33 l0_0 a1).f0)) := (blk_cell BK237.out 0).trans rfl
              have hcz29_1 : wr.cell? ⟨gb237, 1, none⟩ = some (.int .i64 ((rd_T33 l0_0 a1).f1)) := (blk_cell BK237.out 1).trans rfl
              have hcz29_2 : wr.cell? ⟨gb237, 2, none⟩ = some (.int .i64 ((rd_T33 l0_0 a1).f2)) := (blk_cell BK237.out 2).trans rfl
              have hcz29_3 : wr.cell? ⟨gb237, 3, none⟩ = some (.int .i64 ((rd_T33 l0_0 a1).f3)) := (blk_cell BK237.out 3).trans rfl
              have hcz29_4 : wr.cell? ⟨gb237, 4, none⟩ = some (.string ((rd_T33 l0_0 a1).f4)) := (blk_cell BK237.out 4).trans rfl
              have hcz29_5 : wr.cell? ⟨gb237, 5, none⟩ = some (.slice A236_5 ((rd_T33 l0_0 a1).f5).length c236_5) := (blk_cell BK237.out 5).trans rfl
              have hfz29_0 := blk_frozen BK237.out 0
              have hfz29_1 := blk_frozen BK237.out 1
              have hfz29_2 := blk_frozen BK237.out 2
              have hfz29_3 := blk_frozen BK237.out 3
              have hfz29_4 := blk_frozen BK237.out 4
              have hfz29_5 := blk_frozen BK237.out 5
              try go_wp2
              have n0_ := Aside0.mk (blk_drew BK235.out)
              have n1_ := Aside0.mk (blk_drew BK237.out)
              have n2_ := Aside0.mk (below_drew1 HB.out)
              clear BK235
              clear BK237
              clear HB
              have BK235 := n0_
              have BK237 := n1_
              have HB := n2_
              clear n0_ n1_ n2_
              have p239 : 0 ≤ (x11_2 : Int) := of_decide_eq_true (by first | (with_reducible assumption) | assumption)
              have q239 : x11_2 < (((rd_T33 l0_0 a1).f5).length : Int) := of_decide_eq_true (by first | (with_reducible assumption) | assumption)
              obtain ⟨ad239, e239, hx239_0⟩ := Kd.at_int HR236_5.out x11_2 p239 q239
              have hw239_0 := hx239_0
              cases e239
              replace hx239_0 := (HB.out.cell (World.block_lt_of_cell? w _ hx239_0)).trans hx239_0
              replace p239 := eq_true p239
              replace q239 := eq_true q239
              refine start_ (n := 13) (S := fun w' => w'.cell? ⟨gb235, 0, none⟩ = some (.slice (some ad236) l0_0.length c0_0) ∧ w'.cell? ⟨gb237, 0, none⟩ = some (.int .i64 ((rd_T33 l0_0 a1).f0)) ∧ w'.cell? ⟨gb237, 1, none⟩ = some (.int .i64 ((rd_T33 l0_0 a1).f1)) ∧ w'.cell? ⟨gb237, 2, none⟩ = some (.int .i64 ((rd_T33 l0_0 a1).f2)) ∧ w'.cell? ⟨gb237, 3, none⟩ = some (.int .i64 ((rd_T33 l0_0 a1).f3)) ∧ w'.cell? ⟨gb237, 4, none⟩ = some (.string ((rd_T33 l0_0 a1).f4)) ∧ w'.cell? ⟨gb237, 5, none⟩ = some (.slice (some ad239) ((rd_T33 l0_0 a1).f5).length c236_5) ∧ w'.cell? (ad239.add (x11_2).toNat) = some (.int .i64 (rd ((rd_T33 l0_0 a1).f5) x11_2))) (ds := []) #[false, false, false, false, false, false, false, false, false, false, false, false, false] (by kernel_rfl) rfl rfl ⟨(blk_cell BK235.out 0).trans rfl, (blk_cell BK237.out 0).trans rfl, (blk_cell BK237.out 1).trans rfl, (blk_cell BK237.out 2).trans rfl, (blk_cell BK237.out 3).trans rfl, (blk_cell BK237.out 4).trans rfl, (blk_cell BK237.out 5).trans rfl, ((HB.out.cell (World.block_lt_of_cell? w _ hw239_0)).trans hw239_0)⟩ (fun hHeld => ?_); refine with_tabW gramaryeref22_node.tab11 gramaryeref22_node.bits11 (fun HT_ HW_ => ?_)
              generalize wr.drew = w30 at BK235 BK237 HB hx239_0 hHeld ⊢
              refine pure_ (i := 0) (N := some 41) (v := ?_) (a' := ?_) #[true, false, false, false, false, false, false, false, false, false, false, false, false] rfl rfl (any_of HT_.out (by kernel_rfl)) (fun _ _ _ h => h) (Or.inl ⟨by rfl, ?_⟩) ?_ ?_
              rotate_left
              ·
               intro w'
               go_simp
               with_reducible rfl
              rotate_left
              ·
               simp only [Act.put, List.setIfInBounds_toArray, List.set_cons_zero, List.set_cons_succ, i64_w, i32_w]
               rfl
              refine pure_ (i := 2) (N := some 43) (v := ?_) (a' := ?_) #[true, false, true, false, false, false, false, false, false, false, false, false, false] rfl rfl (any_of HT_.out (by kernel_rfl)) (fun _ _ _ h => h) (Or.inl ⟨by rfl, ?_⟩) ?_ ?_
              rotate_left
              ·
               intro w'
               go_simp
               with_reducible rfl
              rotate_left
              ·
               simp only [Act.put, List.setIfInBounds_toArray, List.set_cons_zero, List.set_cons_succ, i64_w, i32_w]
               rfl
              refine pure_ (i := 4) (N := some 45) (v := ?_) (a' := ?_) #[true, false, true, false, true, false, false, false, false, false, false, false, false] rfl rfl (any_of HT_.out (by kernel_rfl)) (fun _ _ _ h => h) (Or.inl ⟨by rfl, ?_⟩) ?_ ?_
              rotate_left
              ·
               intro w'
               go_simp
               with_reducible rfl
              rotate_left
              ·
               simp only [Act.put, List.setIfInBounds_toArray, List.set_cons_zero, List.set_cons_succ, i64_w, i32_w]
               rfl
              refine pure_ (i := 7) (N := some 48) (v := ?_) (a' := ?_) #[true, false, true, false, true, false, false, true, false, false, false, false, false] rfl rfl (any_of HT_.out (by kernel_rfl)) (fun _ _ _ h => h) (Or.inl ⟨by rfl, ?_⟩) ?_ ?_
              rotate_left
              ·
               intro w'
               go_simp
               with_reducible rfl
              rotate_left
              ·
               simp only [Act.put, List.setIfInBounds_toArray, List.set_cons_zero, List.set_cons_succ, i64_w, i32_w]
               rfl
              refine pure_ (i := 8) (N := some 49) (v := ?_) (a' := ?_) #[true, false, true, false, true, false, false, true, true, false, false, false, false] rfl rfl (any_of HT_.out (by kernel_rfl)) (fun _ _ _ h => h) (Or.inl ⟨by rfl, ?_⟩) ?_ ?_
              rotate_left
              ·
               intro w'
               go_simp
               with_reducible rfl
              rotate_left
              ·
               simp only [Act.put, List.setIfInBounds_toArray, List.set_cons_zero, List.set_cons_succ, i64_w, i32_w]
               rfl
              refine take_ (i := 1) (N := some 42) (v := ?_) (a' := ?_) #[true, true, true, false, true, false, false, true, true, false, false, false, false] rfl rfl (take_ofW HT_.out HW_.out (by kernel_rfl)) (fun _ _ _ h => h) (Or.inl ⟨by rfl, ?_⟩) hHeld ?_ ?_
              rotate_left
              ·
               rintro w' ⟨s0, s1, s2, s3, s4, s5, s6, s7⟩
               go_simp
               with_reducible rfl
              rotate_left
              ·
               simp only [Act.put, List.setIfInBounds_toArray, List.set_cons_zero, List.set_cons_succ, i64_w, i32_w]
               rfl
              refine take_ (i := 3) (N := some 44) (v := ?_) (a' := ?_) #[true, true, true, true, true, false, false, true, true, false, false, false, false] rfl rfl (take_ofW HT_.out HW_.out (by kernel_rfl)) (fun _ _ _ h => h) (Or.inl ⟨by rfl, ?_⟩) hHeld ?_ ?_
              rotate_left
              ·
               rintro w' ⟨s0, s1, s2, s3, s4, s5, s6, s7⟩
               go_simp
               with_reducible rfl
              rotate_left
              ·
               simp only [Act.put, List.setIfInBounds_toArray, List.set_cons_zero, List.set_cons_succ, i64_w, i32_w]
               rfl
              refine pure_ (i := 5) (N := some 46) (v := ?_) (a' := ?_) #[true, true, true, true, true, true, false, true, true, false, false, false, false] rfl rfl (any_of HT_.out (by kernel_rfl)) (fun _ _ _ h => h) (Or.inl ⟨by rfl, ?_⟩) ?_ ?_
              rotate_left
              ·
               intro w'
               go_simp
               with_reducible rfl
              rotate_left
              ·
               simp only [Act.put, List.setIfInBounds_toArray, List.set_cons_zero, List.set_cons_succ, i64_w, i32_w]
               rfl
              refine take_ (i := 6) (N := some 47) (v := ?_) (a' := ?_) #[true, true, true, true, true, true, true, true, true, false, false, false, false] rfl rfl (take_ofW HT_.out HW_.out (by kernel_rfl)) (fun _ _ _ h => h) (Or.inl ⟨by rfl, ?_⟩) hHeld ?_ ?_
              rotate_left
              ·
               rintro w' ⟨s0, s1, s2, s3, s4, s5, s6, s7⟩
               go_simp
               with_reducible rfl
              rotate_left
              ·
               simp only [Act.put, List.setIfInBounds_toArray, List.set_cons_zero, List.set_cons_succ, i64_w, i32_w]
               rfl
              refine one_ (i := 9) (N := some 50) #[true, true, true, true, true, true, true, true, true, true, false, false, false] rfl rfl (one_of HT_.out (by kernel_rfl)) (by decide) (fun K hK => ?_)
              refine goes_ Tryd.func51 (by kernel_rfl) rfl #[.agg #[.slice (some ad236) l0_0.length c0_0], .int .i64 (rd ((rd_T33 l0_0 a1).f5) x11_2), .slice A2 l2.length c2, .slice A3 l3.length c3] (by rfl) rfl rfl (by (try simp only [List.map_toArray, List.map_cons, List.map_nil]); first | done | rfl | (simp only [List.length_drop, List.length_take]; rfl)) ?_
              with_reducible refine (ih k2 (by have := HJ6.out; have := HK2.out; omega) _ _ l0_0 (rd ((rd_T33 l0_0 a1).f5) x11_2) _ _ l2 _ _ l3 t240 _ ?side1 ?side2 ?side3 ?side4 ?side5 ?side6 A25.out).mono ?_
              (case side1 => repeat (first | exact (Kd.C_below HR0_0.out HB.out) | (with_reducible refine Kd.C_alloc ?_ _) | (with_reducible refine Kd.C_drewN ?_ _) | (with_reducible refine Kd.C_drew ?_)))
              (case side2 => exact HC0_0.out)
              (case side3 => repeat (first | exact (Kd.C_below HR2.out HB.out) | (with_reducible refine Kd.C_alloc ?_ _) | (with_reducible refine Kd.C_drewN ?_ _) | (with_reducible refine Kd.C_drew ?_)))
              (case side4 => exact HC2.out)
              (case side5 => repeat (first | exact (Kd.C_below HR3.out HB.out) | (with_reducible refine Kd.C_alloc ?_ _) | (with_reducible refine Kd.C_drewN ?_ _) | (with_reducible refine Kd.C_drew ?_)))
              (case side6 => exact HC3.out)
              rintro e w31 ⟨rfl, hb⟩
              refine ⟨_, rfl, ?_⟩
              have n0_ := Aside0.mk (blk_below (g := gb235) (o := .cells #[.slice (some ad236) l0_0.length c0_0] 24 (0, 0)) (by (with_reducible repeat (first | refine blk_drewN ?_ _ | refine blk_drew ?_ | refine blk_alloc ?_ _)); exact BK235.out) hb)
              have n1_ := Aside0.mk (blk_below (g := gb237) (o := .cells #[.int .i64 ((rd_T33 l0_0 a1).f0), .int .i64 ((rd_T33 l0_0 a1).f1), .int .i64 ((rd_T33 l0_0 a1).f2), .int .i64 ((rd_T33 l0_0 a1).f3), .string ((rd_T33 l0_0 a1).f4), .slice (some ad239) ((rd_T33 l0_0 a1).f5).length c236_5] 33 (0, 0)) (by (with_reducible repeat (first | refine blk_drewN ?_ _ | refine blk_drew ?_ | refine blk_alloc ?_ _)); exact BK237.out) hb)
              have n2_ := Aside0.mk (below_step (by repeat (first | (with_reducible first | exact HB.out | apply below_alloc | apply pw_below_drewN | apply below_drew1 | refine below_set ?_ GE235.out | refine below_set ?_ GE237.out) | exact HB.out)) hb)
              clear BK235
              clear BK237
              clear HB
              have BK235 := n0_
              have BK237 := n1_
              have HB := n2_
              clear n0_ n1_ n2_
              (try clear hb)
              (try clear hb2)
              (try clear hk)
              (try clear hi)
              refine hK.out _ _ ⟨(blk_cell BK235.out 0).trans rfl, (blk_cell BK237.out 0).trans rfl, (blk_cell BK237.out 1).trans rfl, (blk_cell BK237.out 2).trans rfl, (blk_cell BK237.out 3).trans rfl, (blk_cell BK237.out 4).trans rfl, (blk_cell BK237.out 5).trans rfl, ((HB.out.cell (World.block_lt_of_cell? w _ hw239_0)).trans hw239_0)⟩ (fun hHeld => ?_)
              clear hK K
              refine norm_ (a' := ?_) ?_ ?_
              rotate_left
              ·
               show Act.put _ (some 50) _ = _
               simp only [Act.put, List.setIfInBounds_toArray, List.set_cons_zero, List.set_cons_succ, i64_w, i32_w]
               rfl
              refine pure_ (i := 10) (N := some 51) (v := ?_) (a' := ?_) #[true, true, true, true, true, true, true, true, true, true, true, false, false] rfl rfl (any_of HT_.out (by kernel_rfl)) (fun _ _ _ h => h) (Or.inl ⟨by rfl, ?_⟩) ?_ ?_
              rotate_left
              ·
               intro w'
               go_simp
               with_reducible rfl
              rotate_left
              ·
               simp only [Act.put, List.setIfInBounds_toArray, List.set_cons_zero, List.set_cons_succ, i64_w, i32_w]
               rfl
              refine pure_ (i := 11) (N := some 52) (v := ?_) (a' := ?_) #[true, true, true, true, true, true, true, true, true, true, true, true, false] rfl rfl (any_of HT_.out (by kernel_rfl)) (fun _ _ _ h => h) (Or.inl ⟨by rfl, ?_⟩) ?_ ?_
              rotate_left
              ·
               intro w'
               go_simp
               with_reducible rfl
              rotate_left
              ·
               simp only [Act.put, List.setIfInBounds_toArray, List.set_cons_zero, List.set_cons_succ, i64_w, i32_w]
               rfl
              refine pure_ (i := 12) (N := some 10) (v := ?_) (a' := ?_) #[true, true, true, true, true, true, true, true, true, true, true, true, true] rfl rfl (any_of HT_.out (by kernel_rfl)) (fun _ _ _ h => h) (Or.inl ⟨by rfl, ?_⟩) ?_ ?_
              rotate_left
              ·
               intro w'
               go_simp
               with_reducible rfl
              rotate_left
              ·
               simp only [Act.put, List.setIfInBounds_toArray, List.set_cons_zero, List.set_cons_succ, i64_w, i32_w]
               rfl
              refine done_ (done_of HT_.out (by kernel_rfl)) ?_
              try go_wp2
              go_roundg k2
              case measure => have := HJ6.out; have := HK2.out; omega
              case rel => exact ⟨(x10_2 ++ ((⟨#[32]⟩ : ByteArray) ++ t240)), (wrap64 (x11_2 + 1)), (by first | rfl | (simp; done) | (simp [*]; done)), (by first | rfl | (simp; done) | (simp [*]; done)), H', ⟨by have := HJ6.out; have := HK2.out; omega⟩, ⟨by (with_reducible repeat (first | refine blk_drewN ?_ _ | refine blk_drew ?_ | refine blk_alloc ?_ _)); exact BK235.out⟩, ⟨by (with_reducible repeat (first | refine blk_drewN ?_ _ | refine blk_drew ?_ | refine blk_alloc ?_ _)); exact BK237.out⟩, ⟨by repeat (first | (with_reducible first | exact HB.out | apply below_alloc | apply pw_below_drewN | apply below_drew1 | refine below_set ?_ GE235.out | refine below_set ?_ GE237.out) | exact HB.out)⟩⟩
             ·
              rw [if_neg c27] at H
              exact absurd H (by simp)
            ·
             rw [if_neg c26] at H
             exact absurd H (by simp)
           ·
            rw [if_neg c24] at H
            exact absurd H (by simp)
          ·
           rw [if_neg c23] at H
           have c23b0 : decide (x11_2 < (((rd_T33 l0_0 a1).f5).length : Int)) = false := decide_eq_false c23
           clear c23
           by_cases c32 : x10_2.size + 1 ≤ 9223372036854775807
           ·
            rw [if_pos c32] at H
            have c32b0 := eq_true c32
            have c32b1 : decide (x10_2.size + 1 ≤ 9223372036854775807) = true := decide_eq_true c32
            try have c32b2 : (9223372036854775807 < x10_2.size + 1) = False := eq_false (Nat.not_lt.2 c32)
            obtain rfl := Option.some.inj H
            have hnb33 := NB237_235.out
            have hnc33 := NB235_237.out
            have hcz34_0 : wr.cell? ⟨gb237, 0, none⟩ = some (.int .i64 ((rd_T33 l0_0 a1).f0)) := (blk_cell BK237.out 0).trans rfl
            have hcz34_1 : wr.cell? ⟨gb237, 1, none⟩ = some (.int .i64 ((rd_T33 l0_0 a1).f1)) := (blk_cell BK237.out 1).trans rfl
            have hcz34_2 : wr.cell? ⟨gb237, 2, none⟩ = some (.int .i64 ((rd_T33 l0_0 a1).f2)) := (blk_cell BK237.out 2).trans rfl
            have hcz34_3 : wr.cell? ⟨gb237, 3, none⟩ = some (.int .i64 ((rd_T33 l0_0 a1).f3)) := (blk_cell BK237.out 3).trans rfl
            have hcz34_4 : wr.cell? ⟨gb237, 4, none⟩ = some (.string ((rd_T33 l0_0 a1).f4)) := (blk_cell BK237.out 4).trans rfl
            have hcz34_5 : wr.cell? ⟨gb237, 5, none⟩ = some (.slice A236_5 ((rd_T33 l0_0 a1).f5).length c236_5) := (blk_cell BK237.out 5).trans rfl
            have hfz34_0 := blk_frozen BK237.out 0
            have hfz34_1 := blk_frozen BK237.out 1
            have hfz34_2 := blk_frozen BK237.out 2
            have hfz34_3 := blk_frozen BK237.out 3
            have hfz34_4 := blk_frozen BK237.out 4
            have hfz34_5 := blk_frozen BK237.out 5
            go_wp2
            go_ret
            exact ⟨by first | rfl | (simp [errW_none, errW_some] <;> rfl) | (simp [*, errW_none, errW_some] <;> rfl), by repeat (first | (with_reducible first | exact HB.out | apply below_alloc | apply pw_below_drewN | apply below_drew1 | refine below_set ?_ GE235.out | refine below_set ?_ GE237.out) | exact HB.out)⟩
           ·
            rw [if_neg c32] at H
            exact absurd H (by simp)
       ·
        rw [if_neg c20] at H
        exact absurd H (by simp)
      ·
       rw [if_neg c19] at H
       exact absurd H (by simp)
     ·
      rw [if_neg c17] at H
      have c17b0 : (((rd_T33 l0_0 a1).f0) == 1) = false := beq_eq_false_iff_ne.mpr c17
      have c17b1 : (((rd_T33 l0_0 a1).f0) != 1) = true := bne_iff_ne.mpr c17
      by_cases c35 : ((rd_T33 l0_0 a1).f0) = 2
      ·
       rw [if_pos c35] at H
       have c35b0 : (((rd_T33 l0_0 a1).f0) == 2) = true := beq_iff_eq.mpr c35
       have c35b1 : (((rd_T33 l0_0 a1).f0) != 2) = false := bne_eq_false_iff_eq.mpr c35
       clear c35
       replace H := Option.bind_eq_some_iff.mp H
       obtain ⟨t241, A360, H⟩ := H
       replace H : (if x10_6.size + t241.size ≤ 9223372036854775807 then (some (x10_6 ++ t241)) else (none)) = some r := H
       have A36 := Aside0.mk A360
       clear A360
       by_cases c37 : x10_6.size + t241.size ≤ 9223372036854775807
       ·
        rw [if_pos c37] at H
        have c37b0 := eq_true c37
        have c37b1 : decide (x10_6.size + t241.size ≤ 9223372036854775807) = true := decide_eq_true c37
        try have c37b2 : (9223372036854775807 < x10_6.size + t241.size) = False := eq_false (Nat.not_lt.2 c37)
        obtain rfl := Option.some.inj H
        have hnb38 := NB237_235.out
        have hnc38 := NB235_237.out
        have hcz39_0 : wc.cell? ⟨gb237, 0, none⟩ = some (.int .i64 ((rd_T33 l0_0 a1).f0)) := (blk_cell BK237.out 0).trans rfl
        have hcz39_1 : wc.cell? ⟨gb237, 1, none⟩ = some (.int .i64 ((rd_T33 l0_0 a1).f1)) := (blk_cell BK237.out 1).trans rfl
        have hcz39_2 : wc.cell? ⟨gb237, 2, none⟩ = some (.int .i64 ((rd_T33 l0_0 a1).f2)) := (blk_cell BK237.out 2).trans rfl
        have hcz39_3 : wc.cell? ⟨gb237, 3, none⟩ = some (.int .i64 ((rd_T33 l0_0 a1).f3)) := (blk_cell BK237.out 3).trans rfl
        have hcz39_4 : wc.cell? ⟨gb237, 4, none⟩ = some (.string ((rd_T33 l0_0 a1).f4)) := (blk_cell BK237.out 4).trans rfl
        have hcz39_5 : wc.cell? ⟨gb237, 5, none⟩ = some (.slice A236_5 ((rd_T33 l0_0 a1).f5).length c236_5) := (blk_cell BK237.out 5).trans rfl
        have hfz39_0 := blk_frozen BK237.out 0
        have hfz39_1 := blk_frozen BK237.out 1
        have hfz39_2 := blk_frozen BK237.out 2
        have hfz39_3 := blk_frozen BK237.out 3
        have hfz39_4 := blk_frozen BK237.out 4
        have hfz39_5 := blk_frozen BK237.out 5
        go_wp2_with (first | ((with_reducible refine gate_callee (f := 81) rfl ?_); refine goesL_ (some 62) rfl rfl Tryd.func81 (by kernel_rfl) rfl #[.slice A3 l3.length c3, .int .i64 (wrap64 (((rd_T33 l0_0 a1).f1) - 1))] rfl (by (try simp only [List.map_toArray, List.map_cons, List.map_nil]); first | done | rfl | (simp only [List.length_drop, List.length_take]; rfl)) ?_; (with_reducible refine (gramaryeref22_of.calls _ _ l3 (wrap64 (((rd_T33 l0_0 a1).f1) - 1)) t241 _ ?side1 ?side2 A36.out).mono ?_); (case side1 => repeat (first | exact (Kd.C_below HR3.out HB.out) | (with_reducible refine Kd.C_alloc ?_ _) | (with_reducible refine Kd.C_drewN ?_ _) | (with_reducible refine Kd.C_drew ?_))); (case side2 => exact HC3.out); rintro e w' ⟨rfl, ⟨nd, rfl⟩⟩; refine ⟨_, rfl, ?_⟩))
        go_ret
        exact ⟨by first | rfl | (simp [errW_none, errW_some] <;> rfl) | (simp [*, errW_none, errW_some] <;> rfl), by repeat (first | (with_reducible first | exact HB.out | apply below_alloc | apply pw_below_drewN | apply below_drew1 | refine below_set ?_ GE235.out | refine below_set ?_ GE237.out) | exact HB.out)⟩
       ·
        rw [if_neg c37] at H
        exact absurd H (by simp)
      ·
       rw [if_neg c35] at H
       have c35b0 : (((rd_T33 l0_0 a1).f0) == 2) = false := beq_eq_false_iff_ne.mpr c35
       have c35b1 : (((rd_T33 l0_0 a1).f0) != 2) = true := bne_iff_ne.mpr c35
       by_cases c40 : ((rd_T33 l0_0 a1).f0) = 3
       ·
        rw [if_pos c40] at H
        have c40b0 : (((rd_T33 l0_0 a1).f0) == 3) = true := beq_iff_eq.mpr c40
        have c40b1 : (((rd_T33 l0_0 a1).f0) != 3) = false := bne_eq_false_iff_eq.mpr c40
        clear c40
        by_cases c41 : x10_6.size + 1 ≤ 9223372036854775807
        ·
         rw [if_pos c41] at H
         have c41b0 := eq_true c41
         have c41b1 : decide (x10_6.size + 1 ≤ 9223372036854775807) = true := decide_eq_true c41
         try have c41b2 : (9223372036854775807 < x10_6.size + 1) = False := eq_false (Nat.not_lt.2 c41)
         replace H := Option.bind_eq_some_iff.mp H
         obtain ⟨t242, A420, H⟩ := H
         replace H : (if (x10_6 ++ (⟨#[60]⟩ : ByteArray)).size + t242.size ≤ 9223372036854775807 then (if ((x10_6 ++ (⟨#[60]⟩ : ByteArray)) ++ t242).size + 2 ≤ 9223372036854775807 then ((gramaryebase_Itoa.f kj6 ((rd_T33 l0_0 a1).f3)).bind fun t243 => (if (((x10_6 ++ (⟨#[60]⟩ : ByteArray)) ++ t242) ++ (⟨#[46, 46]⟩ : ByteArray)).size + t243.size ≤ 9223372036854775807 then (if ((((x10_6 ++ (⟨#[60]⟩ : ByteArray)) ++ t242) ++ (⟨#[46, 46]⟩ : ByteArray)) ++ t243).size + 1 ≤ 9223372036854775807 then (some (((((x10_6 ++ (⟨#[60]⟩ : ByteArray)) ++ t242) ++ (⟨#[46, 46]⟩ : ByteArray)) ++ t243) ++ (⟨#[62]⟩ : ByteArray))) else (none)) else (none))) else (none)) else (none)) = some r := H
         have A42 := Aside0.mk A420
         clear A420
         by_cases c43 : (x10_6 ++ (⟨#[60]⟩ : ByteArray)).size + t242.size ≤ 9223372036854775807
         ·
          rw [if_pos c43] at H
          have c43b0 := eq_true c43
          have c43b1 : decide ((x10_6 ++ (⟨#[60]⟩ : ByteArray)).size + t242.size ≤ 9223372036854775807) = true := decide_eq_true c43
          try have c43b2 : (9223372036854775807 < (x10_6 ++ (⟨#[60]⟩ : ByteArray)).size + t242.size) = False := eq_false (Nat.not_lt.2 c43)
          have c43b4 : (9223372036854775807 < x10_6.size + 1 + t242.size) = False := by have z_ := c43; simp only [ByteArray.size_append] at z_; exact eq_false (Nat.not_lt.2 z_)
          by_cases c44 : ((x10_6 ++ (⟨#[60]⟩ : ByteArray)) ++ t242).size + 2 ≤ 9223372036854775807
          ·
           rw [if_pos c44] at H
           have c44b0 := eq_true c44
           have c44b1 : decide (((x10_6 ++ (⟨#[60]⟩ : ByteArray)) ++ t242).size + 2 ≤ 9223372036854775807) = true := decide_eq_true c44
           try have c44b2 : (9223372036854775807 < ((x10_6 ++ (⟨#[60]⟩ : ByteArray)) ++ t242).size + 2) = False := eq_false (Nat.not_lt.2 c44)
           have c44b4 : (9223372036854775807 < x10_6.size + 1 + t242.size + 2) = False := by have z_ := c44; simp only [ByteArray.size_append] at z_; exact eq_false (Nat.not_lt.2 z_)
           replace H := Option.bind_eq_some_iff.mp H
           obtain ⟨t243, A450, H⟩ := H
           replace H : (if (((x10_6 ++ (⟨#[60]⟩ : ByteArray)) ++ t242) ++ (⟨#[46, 46]⟩ : ByteArray)).size + t243.size ≤ 9223372036854775807 then (if ((((x10_6 ++ (⟨#[60]⟩ : ByteArray)) ++ t242) ++ (⟨#[46, 46]⟩ : ByteArray)) ++ t243).size + 1 ≤ 9223372036854775807 then (some (((((x10_6 ++ (⟨#[60]⟩ : ByteArray)) ++ t242) ++ (⟨#[46, 46]⟩ : ByteArray)) ++ t243) ++ (⟨#[62]⟩ : ByteArray))) else (none)) else (none)) = some r := H
           have A45 := Aside0.mk A450
           clear A450
           by_cases c46 : (((x10_6 ++ (⟨#[60]⟩ : ByteArray)) ++ t242) ++ (⟨#[46, 46]⟩ : ByteArray)).size + t243.size ≤ 9223372036854775807
           ·
            rw [if_pos c46] at H
            have c46b0 := eq_true c46
            have c46b1 : decide ((((x10_6 ++ (⟨#[60]⟩ : ByteArray)) ++ t242) ++ (⟨#[46, 46]⟩ : ByteArray)).size + t243.size ≤ 9223372036854775807) = true := decide_eq_true c46
            try have c46b2 : (9223372036854775807 < (((x10_6 ++ (⟨#[60]⟩ : ByteArray)) ++ t242) ++ (⟨#[46, 46]⟩ : ByteArray)).size + t243.size) = False := eq_false (Nat.not_lt.2 c46)
            have c46b4 : (9223372036854775807 < x10_6.size + 1 + t242.size + 2 + t243.size) = False := by have z_ := c46; simp only [ByteArray.size_append] at z_; exact eq_false (Nat.not_lt.2 z_)
            by_cases c47 : ((((x10_6 ++ (⟨#[60]⟩ : ByteArray)) ++ t242) ++ (⟨#[46, 46]⟩ : ByteArray)) ++ t243).size + 1 ≤ 9223372036854775807
            ·
             rw [if_pos c47] at H
             have c47b0 := eq_true c47
             have c47b1 : decide (((((x10_6 ++ (⟨#[60]⟩ : ByteArray)) ++ t242) ++ (⟨#[46, 46]⟩ : ByteArray)) ++ t243).size + 1 ≤ 9223372036854775807) = true := decide_eq_true c47
             try have c47b2 : (9223372036854775807 < ((((x10_6 ++ (⟨#[60]⟩ : ByteArray)) ++ t242) ++ (⟨#[46, 46]⟩ : ByteArray)) ++ t243).size + 1) = False := eq_false (Nat.not_lt.2 c47)
             have c47b4 : (9223372036854775807 < x10_6.size + 1 + t242.size + 2 + t243.size + 1) = False := by have z_ := c47; simp only [ByteArray.size_append] at z_; exact eq_false (Nat.not_lt.2 z_)
             obtain rfl := Option.some.inj H
             have hnb48 := NB237_235.out
             have hnc48 := NB235_237.out
             have hcz49_0 : wc.cell? ⟨gb237, 0, none⟩ = some (.int .i64 ((rd_T33 l0_0 a1).f0)) := (blk_cell BK237.out 0).trans rfl
             have hcz49_1 : wc.cell? ⟨gb237, 1, none⟩ = some (.int .i64 ((rd_T33 l0_0 a1).f1)) := (blk_cell BK237.out 1).trans rfl
             have hcz49_2 : wc.cell? ⟨gb237, 2, none⟩ = some (.int .i64 ((rd_T33 l0_0 a1).f2)) := (blk_cell BK237.out 2).trans rfl
             have hcz49_3 : wc.cell? ⟨gb237, 3, none⟩ = some (.int .i64 ((rd_T33 l0_0 a1).f3)) := (blk_cell BK237.out 3).trans rfl
             have hcz49_4 : wc.cell? ⟨gb237, 4, none⟩ = some (.string ((rd_T33 l0_0 a1).f4)) := (blk_cell BK237.out 4).trans rfl
             have hcz49_5 : wc.cell? ⟨gb237, 5, none⟩ = some (.slice A236_5 ((rd_T33 l0_0 a1).f5).length c236_5) := (blk_cell BK237.out 5).trans rfl
             have hfz49_0 := blk_frozen BK237.out 0
             have hfz49_1 := blk_frozen BK237.out 1
             have hfz49_2 := blk_frozen BK237.out 2
             have hfz49_3 := blk_frozen BK237.out 3
             have hfz49_4 := blk_frozen BK237.out 4
             have hfz49_5 := blk_frozen BK237.out 5
             try go_wp2
             have n0_ := Aside0.mk (blk_drew BK235.out)
             have n1_ := Aside0.mk (blk_drew BK237.out)
             have n2_ := Aside0.mk (below_drew1 HB.out)
             clear BK235
             clear BK237
             clear HB
             have BK235 := n0_
             have BK237 := n1_
             have HB := n2_
             clear n0_ n1_ n2_
             refine start_ (n := 13) (S := fun w' => w'.cell? ⟨gb237, 0, none⟩ = some (.int .i64 ((rd_T33 l0_0 a1).f0)) ∧ w'.cell? ⟨gb237, 1, none⟩ = some (.int .i64 ((rd_T33 l0_0 a1).f1)) ∧ w'.cell? ⟨gb237, 2, none⟩ = some (.int .i64 ((rd_T33 l0_0 a1).f2)) ∧ w'.cell? ⟨gb237, 3, none⟩ = some (.int .i64 ((rd_T33 l0_0 a1).f3)) ∧ w'.cell? ⟨gb237, 4, none⟩ = some (.string ((rd_T33 l0_0 a1).f4)) ∧ w'.cell? ⟨gb237, 5, none⟩ = some (.slice A236_5 ((rd_T33 l0_0 a1).f5).length c236_5)) (ds := []) #[false, false, false, false, false, false, false, false, false, false, false, false, false] (by kernel_rfl) rfl rfl ⟨(blk_cell BK237.out 0).trans rfl, (blk_cell BK237.out 1).trans rfl, (blk_cell BK237.out 2).trans rfl, (blk_cell BK237.out 3).trans rfl, (blk_cell BK237.out 4).trans rfl, (blk_cell BK237.out 5).trans rfl⟩ (fun hHeld => ?_); refine with_tabW gramaryeref22_node.tab16 gramaryeref22_node.bits16 (fun HT_ HW_ => ?_)
             generalize wc.drew = w50 at BK235 BK237 HB hHeld ⊢
             refine pure_ (i := 0) (N := some 66) (v := ?_) (a' := ?_) #[true, false, false, false, false, false, false, false, false, false, false, false, false] rfl rfl (any_of HT_.out (by kernel_rfl)) (fun _ _ _ h => h) (Or.inl ⟨by rfl, ?_⟩) ?_ ?_
             rotate_left
             ·
              intro w'
              go_simp
              with_reducible rfl
             rotate_left
             ·
              simp only [Act.put, List.setIfInBounds_toArray, List.set_cons_zero, List.set_cons_succ, i64_w, i32_w]
              rfl
             refine pure_ (i := 1) (N := some 67) (v := ?_) (a' := ?_) #[true, true, false, false, false, false, false, false, false, false, false, false, false] rfl rfl (any_of HT_.out (by kernel_rfl)) (fun _ _ _ h => h) (Or.inl ⟨by rfl, ?_⟩) ?_ ?_
             rotate_left
             ·
              intro w'
              go_simp
              with_reducible rfl
             rotate_left
             ·
              simp only [Act.put, List.setIfInBounds_toArray, List.set_cons_zero, List.set_cons_succ, i64_w, i32_w]
              rfl
             refine pure_ (i := 2) (N := some 68) (v := ?_) (a' := ?_) #[true, true, true, false, false, false, false, false, false, false, false, false, false] rfl rfl (any_of HT_.out (by kernel_rfl)) (fun _ _ _ h => h) (Or.inl ⟨by rfl, ?_⟩) ?_ ?_
             rotate_left
             ·
              intro w'
              go_simp
              with_reducible rfl
             rotate_left
             ·
              simp only [Act.put, List.setIfInBounds_toArray, List.set_cons_zero, List.set_cons_succ, i64_w, i32_w]
              rfl
             refine pure_ (i := 7) (N := some 73) (v := ?_) (a' := ?_) #[true, true, true, false, false, false, false, true, false, false, false, false, false] rfl rfl (any_of HT_.out (by kernel_rfl)) (fun _ _ _ h => h) (Or.inl ⟨by rfl, ?_⟩) ?_ ?_
             rotate_left
             ·
              intro w'
              go_simp
              with_reducible rfl
             rotate_left
             ·
              simp only [Act.put, List.setIfInBounds_toArray, List.set_cons_zero, List.set_cons_succ, i64_w, i32_w]
              rfl
             refine take_ (i := 3) (N := some 69) (v := ?_) (a' := ?_) #[true, true, true, true, false, false, false, true, false, false, false, false, false] rfl rfl (take_ofW HT_.out HW_.out (by kernel_rfl)) (fun _ _ _ h => h) (Or.inl ⟨by rfl, ?_⟩) hHeld ?_ ?_
             rotate_left
             ·
              rintro w' ⟨s0, s1, s2, s3, s4, s5⟩
              go_simp
              with_reducible rfl
             rotate_left
             ·
              simp only [Act.put, List.setIfInBounds_toArray, List.set_cons_zero, List.set_cons_succ, i64_w, i32_w]
              rfl
             refine take_ (i := 8) (N := some 74) (v := ?_) (a' := ?_) #[true, true, true, true, false, false, false, true, true, false, false, false, false] rfl rfl (take_ofW HT_.out HW_.out (by kernel_rfl)) (fun _ _ _ h => h) (Or.inl ⟨by rfl, ?_⟩) hHeld ?_ ?_
             rotate_left
             ·
              rintro w' ⟨s0, s1, s2, s3, s4, s5⟩
              go_simp
              with_reducible rfl
             rotate_left
             ·
              simp only [Act.put, List.setIfInBounds_toArray, List.set_cons_zero, List.set_cons_succ, i64_w, i32_w]
              rfl
             refine one_ (i := 4) (N := some 70) #[true, true, true, true, true, false, false, true, true, false, false, false, false] rfl rfl (one_of HT_.out (by kernel_rfl)) (by decide) (fun K hK => ?_)
             refine goes_ Tryd.func26 (by kernel_rfl) rfl #[.int .i64 ((rd_T33 l0_0 a1).f2)] (by rfl) rfl rfl (by (try simp only [List.map_toArray, List.map_cons, List.map_nil]); first | done | rfl | (simp only [List.length_drop, List.length_take]; rfl)) ?_
             with_reducible refine (gramaryebase_Itoa.calls kj6 ((rd_T33 l0_0 a1).f2) t242 _ A42.out).mono ?_
             rintro e w51 ⟨rfl, hb⟩
             refine ⟨_, rfl, ?_⟩
             have n0_ := Aside0.mk (blk_below (g := gb235) (o := .cells #[.slice (some ad236) l0_0.length c0_0] 24 (0, 0)) (by (with_reducible repeat (first | refine blk_drewN ?_ _ | refine blk_drew ?_ | refine blk_alloc ?_ _)); exact BK235.out) hb)
             have n1_ := Aside0.mk (blk_below (g := gb237) (o := .cells #[.int .i64 ((rd_T33 l0_0 a1).f0), .int .i64 ((rd_T33 l0_0 a1).f1), .int .i64 ((rd_T33 l0_0 a1).f2), .int .i64 ((rd_T33 l0_0 a1).f3), .string ((rd_T33 l0_0 a1).f4), .slice A236_5 ((rd_T33 l0_0 a1).f5).length c236_5] 33 (0, 0)) (by (with_reducible repeat (first | refine blk_drewN ?_ _ | refine blk_drew ?_ | refine blk_alloc ?_ _)); exact BK237.out) hb)
             have n2_ := Aside0.mk (below_step (by repeat (first | (with_reducible first | exact HB.out | apply below_alloc | apply pw_below_drewN | apply below_drew1 | refine below_set ?_ GE235.out | refine below_set ?_ GE237.out) | exact HB.out)) hb)
             clear BK235
             clear BK237
             clear HB
             have BK235 := n0_
             have BK237 := n1_
             have HB := n2_
             clear n0_ n1_ n2_
             (try clear hb)
             (try clear hb2)
             (try clear hk)
             (try clear hi)
             refine hK.out _ _ ⟨(blk_cell BK237.out 0).trans rfl, (blk_cell BK237.out 1).trans rfl, (blk_cell BK237.out 2).trans rfl, (blk_cell BK237.out 3).trans rfl, (blk_cell BK237.out 4).trans rfl, (blk_cell BK237.out 5).trans rfl⟩ (fun hHeld => ?_)
             clear hK K
             refine norm_ (a' := ?_) ?_ ?_
             rotate_left
             ·
              show Act.put _ (some 70) _ = _
              simp only [Act.put, List.setIfInBounds_toArray, List.set_cons_zero, List.set_cons_succ, i64_w, i32_w]
              rfl
             refine pure_ (i := 5) (N := some 71) (v := ?_) (a' := ?_) #[true, true, true, true, true, true, false, true, true, false, false, false, false] rfl rfl (any_of HT_.out (by kernel_rfl)) (fun _ _ _ h => h) (Or.inl ⟨by rfl, ?_⟩) ?_ ?_
             rotate_left
             ·
              intro w'
              go_simp
              with_reducible rfl
             rotate_left
             ·
              simp only [Act.put, List.setIfInBounds_toArray, List.set_cons_zero, List.set_cons_succ, i64_w, i32_w]
              rfl
             refine pure_ (i := 6) (N := some 72) (v := ?_) (a' := ?_) #[true, true, true, true, true, true, true, true, true, false, false, false, false] rfl rfl (any_of HT_.out (by kernel_rfl)) (fun _ _ _ h => h) (Or.inl ⟨by rfl, ?_⟩) ?_ ?_
             rotate_left
             ·
              intro w'
              go_simp
              with_reducible rfl
             rotate_left
             ·
              simp only [Act.put, List.setIfInBounds_toArray, List.set_cons_zero, List.set_cons_succ, i64_w, i32_w]
              rfl
             refine one_ (i := 9) (N := some 75) #[true, true, true, true, true, true, true, true, true, true, false, false, false] rfl rfl (one_of HT_.out (by kernel_rfl)) (by decide) (fun K hK => ?_)
             refine goes_ Tryd.func26 (by kernel_rfl) rfl #[.int .i64 ((rd_T33 l0_0 a1).f3)] (by rfl) rfl rfl (by (try simp only [List.map_toArray, List.map_cons, List.map_nil]); first | done | rfl | (simp only [List.length_drop, List.length_take]; rfl)) ?_
             with_reducible refine (gramaryebase_Itoa.calls kj6 ((rd_T33 l0_0 a1).f3) t243 _ A45.out).mono ?_
             rintro e w52 ⟨rfl, hb⟩
             refine ⟨_, rfl, ?_⟩
             have n0_ := Aside0.mk (blk_below (g := gb235) (o := .cells #[.slice (some ad236) l0_0.length c0_0] 24 (0, 0)) (by (with_reducible repeat (first | refine blk_drewN ?_ _ | refine blk_drew ?_ | refine blk_alloc ?_ _)); exact BK235.out) hb)
             have n1_ := Aside0.mk (blk_below (g := gb237) (o := .cells #[.int .i64 ((rd_T33 l0_0 a1).f0), .int .i64 ((rd_T33 l0_0 a1).f1), .int .i64 ((rd_T33 l0_0 a1).f2), .int .i64 ((rd_T33 l0_0 a1).f3), .string ((rd_T33 l0_0 a1).f4), .slice A236_5 ((rd_T33 l0_0 a1).f5).length c236_5] 33 (0, 0)) (by (with_reducible repeat (first | refine blk_drewN ?_ _ | refine blk_drew ?_ | refine blk_alloc ?_ _)); exact BK237.out) hb)
             have n2_ := Aside0.mk (below_step (by repeat (first | (with_reducible first | exact HB.out | apply below_alloc | apply pw_below_drewN | apply below_drew1 | refine below_set ?_ GE235.out | refine below_set ?_ GE237.out) | exact HB.out)) hb)
             clear BK235
             clear BK237
             clear HB
             have BK235 := n0_
             have BK237 := n1_
             have HB := n2_
             clear n0_ n1_ n2_
             (try clear hb)
             (try clear hb2)
             (try clear hk)
             (try clear hi)
             refine hK.out _ _ ⟨(blk_cell BK237.out 0).trans rfl, (blk_cell BK237.out 1).trans rfl, (blk_cell BK237.out 2).trans rfl, (blk_cell BK237.out 3).trans rfl, (blk_cell BK237.out 4).trans rfl, (blk_cell BK237.out 5).trans rfl⟩ (fun hHeld => ?_)
             clear hK K
             refine norm_ (a' := ?_) ?_ ?_
             rotate_left
             ·
              show Act.put _ (some 75) _ = _
              simp only [Act.put, List.setIfInBounds_toArray, List.set_cons_zero, List.set_cons_succ, i64_w, i32_w]
              rfl
             refine pure_ (i := 10) (N := some 76) (v := ?_) (a' := ?_) #[true, true, true, true, true, true, true, true, true, true, true, false, false] rfl rfl (any_of HT_.out (by kernel_rfl)) (fun _ _ _ h => h) (Or.inl ⟨by rfl, ?_⟩) ?_ ?_
             rotate_left
             ·
              intro w'
              go_simp
              with_reducible rfl
             rotate_left
             ·
              simp only [Act.put, List.setIfInBounds_toArray, List.set_cons_zero, List.set_cons_succ, i64_w, i32_w]
              rfl
             refine pure_ (i := 11) (N := some 77) (v := ?_) (a' := ?_) #[true, true, true, true, true, true, true, true, true, true, true, true, false] rfl rfl (any_of HT_.out (by kernel_rfl)) (fun _ _ _ h => h) (Or.inl ⟨by rfl, ?_⟩) ?_ ?_
             rotate_left
             ·
              intro w'
              go_simp
              with_reducible rfl
             rotate_left
             ·
              simp only [Act.put, List.setIfInBounds_toArray, List.set_cons_zero, List.set_cons_succ, i64_w, i32_w]
              rfl
             refine pure_ (i := 12) (N := some 8) (v := ?_) (a' := ?_) #[true, true, true, true, true, true, true, true, true, true, true, true, true] rfl rfl (any_of HT_.out (by kernel_rfl)) (fun _ _ _ h => h) (Or.inl ⟨by rfl, ?_⟩) ?_ ?_
             rotate_left
             ·
              intro w'
              go_simp
              with_reducible rfl
             rotate_left
             ·
              simp only [Act.put, List.setIfInBounds_toArray, List.set_cons_zero, List.set_cons_succ, i64_w, i32_w]
              rfl
             refine done_ (done_of HT_.out (by kernel_rfl)) ?_
             try go_wp2
             go_ret
             exact ⟨by first | rfl | (simp [errW_none, errW_some] <;> rfl) | (simp [*, errW_none, errW_some] <;> rfl), by repeat (first | (with_reducible first | exact HB.out | apply below_alloc | apply pw_below_drewN | apply below_drew1 | refine below_set ?_ GE235.out | refine below_set ?_ GE237.out) | exact HB.out)⟩
            ·
             rw [if_neg c47] at H
             exact absurd H (by simp)
           ·
            rw [if_neg c46] at H
            exact absurd H (by simp)
          ·
           rw [if_neg c44] at H
           exact absurd H (by simp)
         ·
          rw [if_neg c43] at H
          exact absurd H (by simp)
        ·
         rw [if_neg c41] at H
         exact absurd H (by simp)
       ·
        rw [if_neg c40] at H
        have c40b0 : (((rd_T33 l0_0 a1).f0) == 3) = false := beq_eq_false_iff_ne.mpr c40
        have c40b1 : (((rd_T33 l0_0 a1).f0) != 3) = true := bne_iff_ne.mpr c40
        by_cases c53 : ((rd_T33 l0_0 a1).f0) = 4
        ·
         rw [if_pos c53] at H
         have c53b0 : (((rd_T33 l0_0 a1).f0) == 4) = true := beq_iff_eq.mpr c53
         have c53b1 : (((rd_T33 l0_0 a1).f0) != 4) = false := bne_eq_false_iff_eq.mpr c53
         clear c53
         by_cases c54 : x10_6.size + 1 ≤ 9223372036854775807
         ·
          rw [if_pos c54] at H
          have c54b0 := eq_true c54
          have c54b1 : decide (x10_6.size + 1 ≤ 9223372036854775807) = true := decide_eq_true c54
          try have c54b2 : (9223372036854775807 < x10_6.size + 1) = False := eq_false (Nat.not_lt.2 c54)
          replace H := Option.bind_eq_some_iff.mp H
          obtain ⟨t244, A550, H⟩ := H
          replace H : (if (x10_6 ++ (⟨#[33]⟩ : ByteArray)).size + t244.size ≤ 9223372036854775807 then (some ((x10_6 ++ (⟨#[33]⟩ : ByteArray)) ++ t244)) else (none)) = some r := H
          have A55 := Aside0.mk A550
          clear A550
          by_cases c56 : (x10_6 ++ (⟨#[33]⟩ : ByteArray)).size + t244.size ≤ 9223372036854775807
          ·
           rw [if_pos c56] at H
           have c56b0 := eq_true c56
           have c56b1 : decide ((x10_6 ++ (⟨#[33]⟩ : ByteArray)).size + t244.size ≤ 9223372036854775807) = true := decide_eq_true c56
           try have c56b2 : (9223372036854775807 < (x10_6 ++ (⟨#[33]⟩ : ByteArray)).size + t244.size) = False := eq_false (Nat.not_lt.2 c56)
           have c56b4 : (9223372036854775807 < x10_6.size + 1 + t244.size) = False := by have z_ := c56; simp only [ByteArray.size_append] at z_; exact eq_false (Nat.not_lt.2 z_)
           obtain rfl := Option.some.inj H
           have hnb57 := NB237_235.out
           have hnc57 := NB235_237.out
           have hcz58_0 : wc.cell? ⟨gb237, 0, none⟩ = some (.int .i64 ((rd_T33 l0_0 a1).f0)) := (blk_cell BK237.out 0).trans rfl
           have hcz58_1 : wc.cell? ⟨gb237, 1, none⟩ = some (.int .i64 ((rd_T33 l0_0 a1).f1)) := (blk_cell BK237.out 1).trans rfl
           have hcz58_2 : wc.cell? ⟨gb237, 2, none⟩ = some (.int .i64 ((rd_T33 l0_0 a1).f2)) := (blk_cell BK237.out 2).trans rfl
           have hcz58_3 : wc.cell? ⟨gb237, 3, none⟩ = some (.int .i64 ((rd_T33 l0_0 a1).f3)) := (blk_cell BK237.out 3).trans rfl
           have hcz58_4 : wc.cell? ⟨gb237, 4, none⟩ = some (.string ((rd_T33 l0_0 a1).f4)) := (blk_cell BK237.out 4).trans rfl
           have hcz58_5 : wc.cell? ⟨gb237, 5, none⟩ = some (.slice A236_5 ((rd_T33 l0_0 a1).f5).length c236_5) := (blk_cell BK237.out 5).trans rfl
           have hfz58_0 := blk_frozen BK237.out 0
           have hfz58_1 := blk_frozen BK237.out 1
           have hfz58_2 := blk_frozen BK237.out 2
           have hfz58_3 := blk_frozen BK237.out 3
           have hfz58_4 := blk_frozen BK237.out 4
           have hfz58_5 := blk_frozen BK237.out 5
           go_wp2_with (first | ((with_reducible refine gate_callee (f := 81) rfl ?_); refine goesL_ (some 86) rfl rfl Tryd.func81 (by kernel_rfl) rfl #[.slice A3 l3.length c3, .int .i64 (wrap64 (((rd_T33 l0_0 a1).f1) - 1))] rfl (by (try simp only [List.map_toArray, List.map_cons, List.map_nil]); first | done | rfl | (simp only [List.length_drop, List.length_take]; rfl)) ?_; (with_reducible refine (gramaryeref22_of.calls _ _ l3 (wrap64 (((rd_T33 l0_0 a1).f1) - 1)) t244 _ ?side1 ?side2 A55.out).mono ?_); (case side1 => repeat (first | exact (Kd.C_below HR3.out HB.out) | (with_reducible refine Kd.C_alloc ?_ _) | (with_reducible refine Kd.C_drewN ?_ _) | (with_reducible refine Kd.C_drew ?_))); (case side2 => exact HC3.out); rintro e w' ⟨rfl, ⟨nd, rfl⟩⟩; refine ⟨_, rfl, ?_⟩))
           go_ret
           exact ⟨by first | rfl | (simp [errW_none, errW_some] <;> rfl) | (simp [*, errW_none, errW_some] <;> rfl), by repeat (first | (with_reducible first | exact HB.out | apply below_alloc | apply pw_below_drewN | apply below_drew1 | refine below_set ?_ GE235.out | refine below_set ?_ GE237.out) | exact HB.out)⟩
          ·
           rw [if_neg c56] at H
           exact absurd H (by simp)
         ·
          rw [if_neg c54] at H
          exact absurd H (by simp)
        ·
         rw [if_neg c53] at H
         have c53b0 : (((rd_T33 l0_0 a1).f0) == 4) = false := beq_eq_false_iff_ne.mpr c53
         have c53b1 : (((rd_T33 l0_0 a1).f0) != 4) = true := bne_iff_ne.mpr c53
         by_cases c59 : x10_6.size + 1 ≤ 9223372036854775807
         ·
          rw [if_pos c59] at H
          have c59b0 := eq_true c59
          have c59b1 : decide (x10_6.size + 1 ≤ 9223372036854775807) = true := decide_eq_true c59
          try have c59b2 : (9223372036854775807 < x10_6.size + 1) = False := eq_false (Nat.not_lt.2 c59)
          replace H := Option.bind_eq_some_iff.mp H
          obtain ⟨t245, A600, H⟩ := H
          replace H : (if (x10_6 ++ (⟨#[63]⟩ : ByteArray)).size + t245.size ≤ 9223372036854775807 then (some ((x10_6 ++ (⟨#[63]⟩ : ByteArray)) ++ t245)) else (none)) = some r := H
          have A60 := Aside0.mk A600
          clear A600
          by_cases c61 : (x10_6 ++ (⟨#[63]⟩ : ByteArray)).size + t245.size ≤ 9223372036854775807
          ·
           rw [if_pos c61] at H
           have c61b0 := eq_true c61
           have c61b1 : decide ((x10_6 ++ (⟨#[63]⟩ : ByteArray)).size + t245.size ≤ 9223372036854775807) = true := decide_eq_true c61
           try have c61b2 : (9223372036854775807 < (x10_6 ++ (⟨#[63]⟩ : ByteArray)).size + t245.size) = False := eq_false (Nat.not_lt.2 c61)
           have c61b4 : (9223372036854775807 < x10_6.size + 1 + t245.size) = False := by have z_ := c61; simp only [ByteArray.size_append] at z_; exact eq_false (Nat.not_lt.2 z_)
           obtain rfl := Option.some.inj H
           have hnb62 := NB237_235.out
           have hnc62 := NB235_237.out
           have hcz63_0 : wc.cell? ⟨gb237, 0, none⟩ = some (.int .i64 ((rd_T33 l0_0 a1).f0)) := (blk_cell BK237.out 0).trans rfl
           have hcz63_1 : wc.cell? ⟨gb237, 1, none⟩ = some (.int .i64 ((rd_T33 l0_0 a1).f1)) := (blk_cell BK237.out 1).trans rfl
           have hcz63_2 : wc.cell? ⟨gb237, 2, none⟩ = some (.int .i64 ((rd_T33 l0_0 a1).f2)) := (blk_cell BK237.out 2).trans rfl
           have hcz63_3 : wc.cell? ⟨gb237, 3, none⟩ = some (.int .i64 ((rd_T33 l0_0 a1).f3)) := (blk_cell BK237.out 3).trans rfl
           have hcz63_4 : wc.cell? ⟨gb237, 4, none⟩ = some (.string ((rd_T33 l0_0 a1).f4)) := (blk_cell BK237.out 4).trans rfl
           have hcz63_5 : wc.cell? ⟨gb237, 5, none⟩ = some (.slice A236_5 ((rd_T33 l0_0 a1).f5).length c236_5) := (blk_cell BK237.out 5).trans rfl
           have hfz63_0 := blk_frozen BK237.out 0
           have hfz63_1 := blk_frozen BK237.out 1
           have hfz63_2 := blk_frozen BK237.out 2
           have hfz63_3 := blk_frozen BK237.out 3
           have hfz63_4 := blk_frozen BK237.out 4
           have hfz63_5 := blk_frozen BK237.out 5
           go_wp2_with (first | ((with_reducible refine gate_callee (f := 26) rfl ?_); refine goesL_ (some 92) rfl rfl Tryd.func26 (by kernel_rfl) rfl #[.int .i64 ((rd_T33 l0_0 a1).f1)] rfl (by (try simp only [List.map_toArray, List.map_cons, List.map_nil]); first | done | rfl | (simp only [List.length_drop, List.length_take]; rfl)) ?_; (with_reducible refine (gramaryebase_Itoa.calls kj6 ((rd_T33 l0_0 a1).f1) t245 _ A60.out).mono ?_); rintro e w64 ⟨rfl, hb⟩; refine ⟨_, rfl, ?_⟩; have n0_ := Aside0.mk (blk_below (g := gb235) (o := .cells #[.slice (some ad236) l0_0.length c0_0] 24 (0, 0)) (by (with_reducible repeat (first | refine blk_drewN ?_ _ | refine blk_drew ?_ | refine blk_alloc ?_ _)); exact BK235.out) hb); have n1_ := Aside0.mk (blk_below (g := gb237) (o := .cells #[.int .i64 ((rd_T33 l0_0 a1).f0), .int .i64 ((rd_T33 l0_0 a1).f1), .int .i64 ((rd_T33 l0_0 a1).f2), .int .i64 ((rd_T33 l0_0 a1).f3), .string ((rd_T33 l0_0 a1).f4), .slice A236_5 ((rd_T33 l0_0 a1).f5).length c236_5] 33 (0, 0)) (by (with_reducible repeat (first | refine blk_drewN ?_ _ | refine blk_drew ?_ | refine blk_alloc ?_ _)); exact BK237.out) hb); have n2_ := Aside0.mk (below_step (by repeat (first | (with_reducible first | exact HB.out | apply below_alloc | apply pw_below_drewN | apply below_drew1 | refine below_set ?_ GE235.out | refine below_set ?_ GE237.out) | exact HB.out)) hb); clear BK235; clear BK237; clear HB; have BK235 := n0_; have BK237 := n1_; have HB := n2_; clear n0_ n1_ n2_; (try clear hb); (try clear hb2); (try clear hk); (try clear hi)))
           go_ret
           exact ⟨by first | rfl | (simp [errW_none, errW_some] <;> rfl) | (simp [*, errW_none, errW_some] <;> rfl), by repeat (first | (with_reducible first | exact HB.out | apply below_alloc | apply pw_below_drewN | apply below_drew1 | refine below_set ?_ GE235.out | refine below_set ?_ GE237.out) | exact HB.out)⟩
          ·
           rw [if_neg c61] at H
           exact absurd H (by simp)
         ·
          rw [if_neg c59] at H
          exact absurd H (by simp)
  ·
   rw [if_neg c6] at H
   exact absurd H (by simp)
 ·
  rw [if_neg c5] at H
  exact absurd H (by simp)
end Go.Proofs.YtafbmlhgcmlmpaaDoor.PT
