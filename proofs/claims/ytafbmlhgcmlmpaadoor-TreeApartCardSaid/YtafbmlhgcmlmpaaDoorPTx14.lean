-- Written by this session's turned printer (wip/tools/oprint.py, op.sh), out of the translation. Lean checks it.
import Derived.Test.YtafbmlhgcmlmpaaDoorPTx0
import Derived.Test.YtafbmlhgcmlmpaaDoorPTx13
import Derived.Test.YtafbmlhgcmlmpaaDoorPTx2
import Derived.Test.YtafbmlhgcmlmpaaDoorPTx9
import Derived.Test.YtafbmlhgcmlmpaaDoorTMay
import Derived.Test.YtafbmlhgcmlmpaaDoorPTx6
import Derived.Test.YtafbmlhgcmlmpaaDoorTSame1
import Derived.Test.YtafbmlhgcmlmpaaDoorTText
import Derived.Test.YtafbmlhgcmlmpaaDoorTWorks
namespace Go.Proofs.YtafbmlhgcmlmpaaDoor.PT
open Go.RowKit Go.Proofs.YtafbmlhgcmlmpaaDoorW.PrintWords Go.Proofs.YtafbmlhgcmlmpaaDoorW.PrintLast Go.Proofs.YtafbmlhgcmlmpaaDoorW.PrintMore
attribute [local go_sem] max2_int min2_int max_two min_two max_three min_three max_four min_four   -- for this text's walks alone
set_option linter.unusedVariables false
set_option linter.unusedSimpArgs false
def gramaryelaw22_TreeApart.l0 : Nat → List ByteArray → List ByteArray → Int → List (S33) → List (S33) → Option (Bool)
 | 0, _, _, _, _, _ => none
 | k + 1, x7, x8, x9, x288000, x298000 => if x9 < 50 then ((gramaryebase_Itoa.f k x9).bind fun t311 => (if 1 + t311.size ≤ 9223372036854775807 then (if x7.length < 8796093022208 then ((gramaryebase_Itoa.f k x9).bind fun t315 => (if 1 + t315.size ≤ 9223372036854775807 then (if x8.length < 8796093022208 then (gramaryelaw22_TreeApart.l0 k (x7 ++ [(⟨#[114]⟩ : ByteArray) ++ t311]) (x8 ++ [(⟨#[84]⟩ : ByteArray) ++ t315]) (wrap64 (x9 + 1)) x288000 x298000) else (none)) else (none))) else (none)) else (none))) else ((tree_May.f x298000).bind fun t319 => (if t319 = 0 then ((tree_Same.f x288000 x298000).bind fun t320 => (if t320 = true then (some false) else ((tree_Text.f x288000 x7 x8).bind fun t321 => ((tree_Text.f x298000 x7 x8).bind fun t322 => (some (t321.toList != t322.toList)))))) else (some false)))
def gramaryelaw22_TreeApart.f (k : Nat) (l0_0 : List (S33)) (a1 : Int) : Option (Bool) := (gramaryelaw22_works.f).bind fun t288 => (if t288 = true then ((gramaryelaw22_Few.f k l0_0).bind fun t289 => ((tree_May.f t289).bind fun t292 => (if t292 = 0 then ((gramaryelaw22_Few.f k t289).bind fun t294 => ((gramaryebase_Among.f a1 (t294.length : Int)).bind fun t298 => (if 0 ≤ t298 then (if t298 < (t294.length : Int) then (if ((rd_T33 t294 t298).f1) ≥ 40 then (some true) else ((some (t294.set (t298 : Int).toNat (⟨(rd_T33 t294 t298).f0, wrap64 (((rd_T33 t294 t298).f1) + 1), (rd_T33 t294 t298).f2, (rd_T33 t294 t298).f3, (rd_T33 t294 t298).f4, (rd_T33 t294 t298).f5⟩ : S33) : List (S33))).bind fun y301 => (if ((rd_T33 y301 t298).f0) = 3 then ((tree_May.f y301).bind fun t303 => (if t303 = 4 then ((tree_Same.f t289 t289).bind fun t304 => (some t304)) else (some false))) else (gramaryelaw22_TreeApart.l0 k (([] : List ByteArray)) (([] : List ByteArray)) 0 t289 y301)))) else (none)) else (none)))) else ((tree_Same.f t289 t289).bind fun t293 => (some (!t293)))))) else (some false))
theorem gramaryelaw22_TreeApart.mono_l : ∀ k, (∀ y0 y1 y2 y3 y4, LeO (gramaryelaw22_TreeApart.l0 k y0 y1 y2 y3 y4) (gramaryelaw22_TreeApart.l0 (k + 1) y0 y1 y2 y3 y4))
 | 0 => fun _ _ _ _ _ r h => by simp [gramaryelaw22_TreeApart.l0] at h
 | k + 1 => by
  have ih0 := gramaryelaw22_TreeApart.mono_l k
  ·
   intro y0 y1 y2 y3 y4
   unfold gramaryelaw22_TreeApart.l0
   repeat' first
   | (with_reducible exact ih0 _ _ _ _ _)
   | (with_reducible exact gramaryebase_Itoa.mono _ _)
   | (with_reducible exact gramaryelaw22_Few.mono _ _)
   | (with_reducible exact LeO.refl _)
   | (with_reducible exact LeO.none _)
   | (with_reducible refine LeO.ite ?_ ?_)
   | (with_reducible refine LeO.bind ?_ (fun _ => ?_))
   | exact ih0 _ _ _ _ _
   | exact gramaryebase_Itoa.mono _ _
   | exact gramaryelaw22_Few.mono _ _
   | exact LeO.none _
   | refine LeO.ite ?_ ?_
   | refine LeO.bind ?_ (fun _ => ?_)
theorem gramaryelaw22_TreeApart.mono : ∀ a0 a1 k, LeO (gramaryelaw22_TreeApart.f k a0 a1) (gramaryelaw22_TreeApart.f (k + 1) a0 a1) := by
 intro a0 a1 k
 have ih0 := gramaryelaw22_TreeApart.mono_l k
 unfold gramaryelaw22_TreeApart.f
 repeat' first
   | (with_reducible exact ih0 _ _ _ _ _)
   | (with_reducible exact gramaryebase_Itoa.mono _ _)
   | (with_reducible exact gramaryelaw22_Few.mono _ _)
   | (with_reducible exact LeO.refl _)
   | (with_reducible exact LeO.none _)
   | (with_reducible refine LeO.ite ?_ ?_)
   | (with_reducible refine LeO.bind ?_ (fun _ => ?_))
   | exact ih0 _ _ _ _ _
   | exact gramaryebase_Itoa.mono _ _
   | exact gramaryelaw22_Few.mono _ _
   | exact LeO.none _
   | refine LeO.ite ?_ ?_
   | refine LeO.bind ?_ (fun _ => ?_)
def gramaryelaw22_TreeApart.T18 : Bool × List (List Nat × List Nat) := (true, [([], []), ([0], [0]), ([1], [1]), ([2, 1], [2]), ([3], [3]), ([3], [3]), ([4, 5, 3, 3], [3, 4, 5]), ([6, 3], [3, 6]), ([3, 7], [3, 7]), ([8, 6], [8]), ([9], [9]), ([9], [9]), ([9], [9]), ([10, 11, 12, 9, 9], [9, 10, 11, 12]), ([9], [9]), ([9], [9]), ([9], [9]), ([14, 15, 16, 13, 9], [9, 14, 15, 16]), ([13, 17, 9], [9, 13, 17]), ([9, 18], [9, 18]), ([19, 17, 0, 1, 2, 3, 4, 5, 6, 7, 8, 9, 10, 11, 12, 13, 14, 15, 16, 17, 18, 19], [19])])
def gramaryelaw22_TreeApart.B18 : List Nat := [0, 1, 3, 7, 15, 15, 63, 127, 255, 511, 1023, 1023, 1023, 8191, 1023, 1023, 1023, 131071, 262143, 524287, 1048575]
theorem gramaryelaw22_TreeApart.tab18 : rtab .any (opsOf Tryd.f5 18) = gramaryelaw22_TreeApart.T18 := by kernel_rfl
theorem gramaryelaw22_TreeApart.bits18 : waitsOk gramaryelaw22_TreeApart.T18.2 gramaryelaw22_TreeApart.B18 = true := by kernel_rfl
set_option maxHeartbeats 8000000 in
set_option maxRecDepth 100000 in
theorem gramaryelaw22_TreeApart.calls (k : Nat) (A0_0 : Option Addr) (c0_0 : Nat) (l0_0 : List (S33)) (a1 : Int) (r : Bool) (w : World) (hr0_0 : Kd.C k33 w A0_0 l0_0.length l0_0) (hc0_0 : l0_0.length ≤ c0_0) (hG : GL w) (h : gramaryelaw22_TreeApart.f k l0_0 a1 = some r) :
  Calls Tryd.prog 5 #[.agg #[.slice A0_0 l0_0.length c0_0], .int .i64 a1] w fun e w' => e = .returned (.bool r) ∧ Below w.heap.size w w' := by
 have hu24 := Tryd.underlying24
 have HR0_0 := Aside0.mk hr0_0
 have HC0_0 := Aside0.mk hc0_0
 clear hr0_0 hc0_0
 have HB := Aside0.mk (Below.refl w.heap.size w)
 have HG := Aside0.mk hG
 clear hG
 have H : ((gramaryelaw22_works.f).bind fun t288 => (if t288 = true then ((gramaryelaw22_Few.f k l0_0).bind fun t289 => ((tree_May.f t289).bind fun t292 => (if t292 = 0 then ((gramaryelaw22_Few.f k t289).bind fun t294 => ((gramaryebase_Among.f a1 (t294.length : Int)).bind fun t298 => (if 0 ≤ t298 then (if t298 < (t294.length : Int) then (if ((rd_T33 t294 t298).f1) ≥ 40 then (some true) else ((some (t294.set (t298 : Int).toNat (⟨(rd_T33 t294 t298).f0, wrap64 (((rd_T33 t294 t298).f1) + 1), (rd_T33 t294 t298).f2, (rd_T33 t294 t298).f3, (rd_T33 t294 t298).f4, (rd_T33 t294 t298).f5⟩ : S33) : List (S33))).bind fun y301 => (if ((rd_T33 y301 t298).f0) = 3 then ((tree_May.f y301).bind fun t303 => (if t303 = 4 then ((tree_Same.f t289 t289).bind fun t304 => (some t304)) else (some false))) else (gramaryelaw22_TreeApart.l0 k (([] : List ByteArray)) (([] : List ByteArray)) 0 t289 y301)))) else (none)) else (none)))) else ((tree_Same.f t289 t289).bind fun t293 => (some (!t293)))))) else (some false))) = some r := h
 clear h
 replace H := Option.bind_eq_some_iff.mp H
 obtain ⟨t288, A30, H⟩ := H
 replace H : (if t288 = true then ((gramaryelaw22_Few.f k l0_0).bind fun t289 => ((tree_May.f t289).bind fun t292 => (if t292 = 0 then ((gramaryelaw22_Few.f k t289).bind fun t294 => ((gramaryebase_Among.f a1 (t294.length : Int)).bind fun t298 => (if 0 ≤ t298 then (if t298 < (t294.length : Int) then (if ((rd_T33 t294 t298).f1) ≥ 40 then (some true) else ((some (t294.set (t298 : Int).toNat (⟨(rd_T33 t294 t298).f0, wrap64 (((rd_T33 t294 t298).f1) + 1), (rd_T33 t294 t298).f2, (rd_T33 t294 t298).f3, (rd_T33 t294 t298).f4, (rd_T33 t294 t298).f5⟩ : S33) : List (S33))).bind fun y301 => (if ((rd_T33 y301 t298).f0) = 3 then ((tree_May.f y301).bind fun t303 => (if t303 = 4 then ((tree_Same.f t289 t289).bind fun t304 => (some t304)) else (some false))) else (gramaryelaw22_TreeApart.l0 k (([] : List ByteArray)) (([] : List ByteArray)) 0 t289 y301)))) else (none)) else (none)))) else ((tree_Same.f t289 t289).bind fun t293 => (some (!t293)))))) else (some false)) = some r := H
 have A3 := Aside0.mk A30
 clear A30
 by_cases c4 : t288 = true
 ·
  subst c4
  have H1 : ((gramaryelaw22_Few.f k l0_0).bind fun t289 => ((tree_May.f t289).bind fun t292 => (if t292 = 0 then ((gramaryelaw22_Few.f k t289).bind fun t294 => ((gramaryebase_Among.f a1 (t294.length : Int)).bind fun t298 => (if 0 ≤ t298 then (if t298 < (t294.length : Int) then (if ((rd_T33 t294 t298).f1) ≥ 40 then (some true) else ((some (t294.set (t298 : Int).toNat (⟨(rd_T33 t294 t298).f0, wrap64 (((rd_T33 t294 t298).f1) + 1), (rd_T33 t294 t298).f2, (rd_T33 t294 t298).f3, (rd_T33 t294 t298).f4, (rd_T33 t294 t298).f5⟩ : S33) : List (S33))).bind fun y301 => (if ((rd_T33 y301 t298).f0) = 3 then ((tree_May.f y301).bind fun t303 => (if t303 = 4 then ((tree_Same.f t289 t289).bind fun t304 => (some t304)) else (some false))) else (gramaryelaw22_TreeApart.l0 k (([] : List ByteArray)) (([] : List ByteArray)) 0 t289 y301)))) else (none)) else (none)))) else ((tree_Same.f t289 t289).bind fun t293 => (some (!t293)))))) = some r := by rw [if_pos rfl] at H; exact H
  clear H
  have H := H1
  clear H1
  replace H := Option.bind_eq_some_iff.mp H
  obtain ⟨t289, A50, H⟩ := H
  replace H : ((tree_May.f t289).bind fun t292 => (if t292 = 0 then ((gramaryelaw22_Few.f k t289).bind fun t294 => ((gramaryebase_Among.f a1 (t294.length : Int)).bind fun t298 => (if 0 ≤ t298 then (if t298 < (t294.length : Int) then (if ((rd_T33 t294 t298).f1) ≥ 40 then (some true) else ((some (t294.set (t298 : Int).toNat (⟨(rd_T33 t294 t298).f0, wrap64 (((rd_T33 t294 t298).f1) + 1), (rd_T33 t294 t298).f2, (rd_T33 t294 t298).f3, (rd_T33 t294 t298).f4, (rd_T33 t294 t298).f5⟩ : S33) : List (S33))).bind fun y301 => (if ((rd_T33 y301 t298).f0) = 3 then ((tree_May.f y301).bind fun t303 => (if t303 = 4 then ((tree_Same.f t289 t289).bind fun t304 => (some t304)) else (some false))) else (gramaryelaw22_TreeApart.l0 k (([] : List ByteArray)) (([] : List ByteArray)) 0 t289 y301)))) else (none)) else (none)))) else ((tree_Same.f t289 t289).bind fun t293 => (some (!t293))))) = some r := H
  have A5 := Aside0.mk A50
  clear A50
  replace H := Option.bind_eq_some_iff.mp H
  obtain ⟨t292, A60, H⟩ := H
  replace H : (if t292 = 0 then ((gramaryelaw22_Few.f k t289).bind fun t294 => ((gramaryebase_Among.f a1 (t294.length : Int)).bind fun t298 => (if 0 ≤ t298 then (if t298 < (t294.length : Int) then (if ((rd_T33 t294 t298).f1) ≥ 40 then (some true) else ((some (t294.set (t298 : Int).toNat (⟨(rd_T33 t294 t298).f0, wrap64 (((rd_T33 t294 t298).f1) + 1), (rd_T33 t294 t298).f2, (rd_T33 t294 t298).f3, (rd_T33 t294 t298).f4, (rd_T33 t294 t298).f5⟩ : S33) : List (S33))).bind fun y301 => (if ((rd_T33 y301 t298).f0) = 3 then ((tree_May.f y301).bind fun t303 => (if t303 = 4 then ((tree_Same.f t289 t289).bind fun t304 => (some t304)) else (some false))) else (gramaryelaw22_TreeApart.l0 k (([] : List ByteArray)) (([] : List ByteArray)) 0 t289 y301)))) else (none)) else (none)))) else ((tree_Same.f t289 t289).bind fun t293 => (some (!t293)))) = some r := H
  have A6 := Aside0.mk A60
  clear A60
  by_cases c7 : t292 = 0
  ·
   rw [if_pos c7] at H
   have c7b0 : (t292 == 0) = true := beq_iff_eq.mpr c7
   have c7b1 : (t292 != 0) = false := bne_eq_false_iff_eq.mpr c7
   clear c7
   replace H := Option.bind_eq_some_iff.mp H
   obtain ⟨t294, A80, H⟩ := H
   replace H : ((gramaryebase_Among.f a1 (t294.length : Int)).bind fun t298 => (if 0 ≤ t298 then (if t298 < (t294.length : Int) then (if ((rd_T33 t294 t298).f1) ≥ 40 then (some true) else ((some (t294.set (t298 : Int).toNat (⟨(rd_T33 t294 t298).f0, wrap64 (((rd_T33 t294 t298).f1) + 1), (rd_T33 t294 t298).f2, (rd_T33 t294 t298).f3, (rd_T33 t294 t298).f4, (rd_T33 t294 t298).f5⟩ : S33) : List (S33))).bind fun y301 => (if ((rd_T33 y301 t298).f0) = 3 then ((tree_May.f y301).bind fun t303 => (if t303 = 4 then ((tree_Same.f t289 t289).bind fun t304 => (some t304)) else (some false))) else (gramaryelaw22_TreeApart.l0 k (([] : List ByteArray)) (([] : List ByteArray)) 0 t289 y301)))) else (none)) else (none))) = some r := H
   have A8 := Aside0.mk A80
   clear A80
   replace H := Option.bind_eq_some_iff.mp H
   obtain ⟨t298, A90, H⟩ := H
   replace H : (if 0 ≤ t298 then (if t298 < (t294.length : Int) then (if ((rd_T33 t294 t298).f1) ≥ 40 then (some true) else ((some (t294.set (t298 : Int).toNat (⟨(rd_T33 t294 t298).f0, wrap64 (((rd_T33 t294 t298).f1) + 1), (rd_T33 t294 t298).f2, (rd_T33 t294 t298).f3, (rd_T33 t294 t298).f4, (rd_T33 t294 t298).f5⟩ : S33) : List (S33))).bind fun y301 => (if ((rd_T33 y301 t298).f0) = 3 then ((tree_May.f y301).bind fun t303 => (if t303 = 4 then ((tree_Same.f t289 t289).bind fun t304 => (some t304)) else (some false))) else (gramaryelaw22_TreeApart.l0 k (([] : List ByteArray)) (([] : List ByteArray)) 0 t289 y301)))) else (none)) else (none)) = some r := H
   have A9 := Aside0.mk A90
   clear A90
   by_cases c10 : 0 ≤ t298
   ·
    rw [if_pos c10] at H
    have c10b0 : decide (0 ≤ t298) = true := decide_eq_true c10
    clear c10
    by_cases c11 : t298 < (t294.length : Int)
    ·
     rw [if_pos c11] at H
     have c11b0 : decide (t298 < (t294.length : Int)) = true := decide_eq_true c11
     clear c11
     by_cases c12 : ((rd_T33 t294 t298).f1) ≥ 40
     ·
      rw [if_pos c12] at H
      have c12b0 : decide (40 ≤ ((rd_T33 t294 t298).f1)) = true := decide_eq_true c12
      clear c12
      obtain rfl := Option.some.inj H
      go_enter Tryd.func5, Tryd.ntmps5
      go_wp2_with (first | ((with_reducible refine gate_dst (N := 2) rfl ?_); refine box_event ?hg (N := 2) ?hd (cs := #[.slice A0_0 l0_0.length c0_0]) (t := 24) ?hr ?_; (case hd => rfl); (case hg => rfl); (case hr => first | (go_simp; done) | (go_simp; rfl)); intro gb287 hg w13 hbox hb; have n0_ := Aside0.mk (below_step (by repeat (first | (with_reducible first | exact HB.out | apply below_alloc | apply pw_below_drewN | apply below_drew1) | exact HB.out)) hb); have n1_ := Aside0.mk (hbox); have n2_ := Aside0.mk ((by rw [hg]; exact (below_size (by repeat (first | (with_reducible first | exact HB.out | apply below_alloc | apply pw_below_drewN | apply below_drew1) | exact HB.out))) : w.heap.size ≤ gb287)); have n3_ := Aside0.mk ((by rw [hg]; exact (below_size (by repeat (first | (with_reducible first | exact HB.out | apply below_alloc | apply pw_below_drewN | apply below_drew1) | exact HB.out))) : w.heap.size ≤ gb287)); clear HB; have HB := n0_; have BK287 := n1_; have GW287 := n2_; have GE287 := n3_; clear n0_ n1_ n2_ n3_; clear hb hbox hg) | ((with_reducible refine gate_callee (f := 16) rfl ?_); refine goesL_ (some 10) rfl rfl Tryd.func16 (by kernel_rfl) rfl #[] rfl (by (try simp only [List.map_toArray, List.map_cons, List.map_nil]); first | done | rfl | (simp only [List.length_drop, List.length_take]; rfl)) ?_; (with_reducible refine (gramaryelaw22_works.calls  true _ ?side1 A3.out).mono ?_); (case side1 => exact GL_below HG.out (by repeat (first | (with_reducible first | exact HB.out | apply below_alloc | apply pw_below_drewN | apply below_drew1 | refine below_set ?_ GE287.out) | exact HB.out))); rintro e w14 ⟨rfl, hb⟩; refine ⟨_, rfl, ?_⟩; have n0_ := Aside0.mk (blk_below (g := gb287) (o := .cells #[.slice A0_0 l0_0.length c0_0] 24 (0, 0)) (by (with_reducible repeat (first | refine blk_drewN ?_ _ | refine blk_drew ?_ | refine blk_alloc ?_ _)); exact BK287.out) hb); have n1_ := Aside0.mk (below_step (by repeat (first | (with_reducible first | exact HB.out | apply below_alloc | apply pw_below_drewN | apply below_drew1 | refine below_set ?_ GE287.out) | exact HB.out)) hb); clear BK287; clear HB; have BK287 := n0_; have HB := n1_; clear n0_ n1_; (try clear hb); (try clear hb2); (try clear hk); (try clear hi); have hcz15_0 : w14.cell? ⟨gb287, 0, none⟩ = some (.slice A0_0 l0_0.length c0_0) := (blk_cell BK287.out 0).trans rfl; have hfz15_0 := blk_frozen BK287.out 0) | ((with_reducible refine gate_callee (f := 10) rfl ?_); refine goesL_ (some 13) rfl rfl Tryd.func10 (by kernel_rfl) rfl #[.agg #[.slice A0_0 l0_0.length c0_0]] rfl (by (try simp only [List.map_toArray, List.map_cons, List.map_nil]); first | done | rfl | (simp only [List.length_drop, List.length_take]; rfl)) ?_; (with_reducible refine (gramaryelaw22_Few.calls k _ _ l0_0 t289 _ ?side1 ?side2 A5.out).mono ?_); (case side1 => repeat (first | exact (Kd.C_below HR0_0.out HB.out) | (with_reducible refine Kd.C_alloc ?_ _) | (with_reducible refine Kd.C_drewN ?_ _) | (with_reducible refine Kd.C_drew ?_))); (case side2 => exact HC0_0.out); rintro e w16 ⟨v290, rfl, ho0, hb⟩; refine ⟨_, rfl, ?_⟩; have n0_ := Aside0.mk (Kd.S_lower ho0 (below_size (by repeat (first | (with_reducible first | exact HB.out | apply below_alloc | apply pw_below_drewN | apply below_drew1 | refine below_set ?_ GE287.out) | exact HB.out)))); have n1_ := Aside0.mk (blk_below (g := gb287) (o := .cells #[.slice A0_0 l0_0.length c0_0] 24 (0, 0)) (by (with_reducible repeat (first | refine blk_drewN ?_ _ | refine blk_drew ?_ | refine blk_alloc ?_ _)); exact BK287.out) hb); have n2_ := Aside0.mk (below_step (by repeat (first | (with_reducible first | exact HB.out | apply below_alloc | apply pw_below_drewN | apply below_drew1 | refine below_set ?_ GE287.out) | exact HB.out)) hb); clear BK287; clear HB; have HO291 := n0_; have BK287 := n1_; have HB := n2_; clear n0_ n1_ n2_; (try clear hb); (try clear hb2); (try clear hk); (try clear hi); (try clear ho0); obtain ⟨Ao17, co17, eo17⟩ := Kd.S_slice HO291.out; subst eo17; have hcz18_0 : w16.cell? ⟨gb287, 0, none⟩ = some (.slice A0_0 l0_0.length c0_0) := (blk_cell BK287.out 0).trans rfl; have hfz18_0 := blk_frozen BK287.out 0) | ((with_reducible refine gate_callee (f := 11) rfl ?_); refine goesL_ (some 15) rfl rfl Tryd.func11 (by kernel_rfl) rfl #[.agg #[.slice Ao17 t289.length co17]] rfl (by (try simp only [List.map_toArray, List.map_cons, List.map_nil]); first | done | rfl | (simp only [List.length_drop, List.length_take]; rfl)) ?_; (with_reducible refine (tree_May.calls _ _ t289 t292 _ ?side1 ?side2 ?side3 A6.out).mono ?_); (case side1 => refine (Kd.S_reads' (e := 33) (base := w.heap.size) (ok := fun k_ => True) (n := t289.length) (c := co17) ?_).2.2; exact (by (with_reducible repeat (first | apply Kd.S_alloc | apply Kd.S_drewN | apply Kd.S_drew)); exact (Kd.S_mono (Kd.S_far (p := ⟨gb287, 0, none⟩) (Kd.S_types HO291.out BK287.out (by decide)) (fun _ hk => hk.2) (.slice Ao17 t289.length co17)) (fun _ h_ => h_.1)))); (case side2 => exact (Kd.S_reads' HO291.out).2.1); (case side3 => exact GL_below HG.out (by repeat (first | (with_reducible first | exact HB.out | apply below_alloc | apply pw_below_drewN | apply below_drew1 | refine below_set ?_ GE287.out) | exact HB.out))); rintro e w19 ⟨rfl, hb⟩; refine ⟨_, rfl, ?_⟩; have n0_ := Aside0.mk (Kd.S_below (by (with_reducible repeat (first | apply Kd.S_alloc | apply Kd.S_drewN | apply Kd.S_drew)); exact (Kd.S_mono (Kd.S_far (p := ⟨gb287, 0, none⟩) (Kd.S_types HO291.out BK287.out (by decide)) (fun _ hk => hk.2) (.slice Ao17 t289.length co17)) (fun _ h_ => h_.1))) hb); have n1_ := Aside0.mk (blk_below (g := gb287) (o := .cells #[.slice Ao17 t289.length co17] 24 (0, 0)) (by (with_reducible repeat (first | refine blk_drewN ?_ _ | refine blk_drew ?_ | refine blk_alloc ?_ _)); refine blk_put (cs := #[.slice A0_0 l0_0.length c0_0]) ?_ 0 _ rfl; (with_reducible repeat (first | refine blk_drewN ?_ _ | refine blk_drew ?_ | refine blk_alloc ?_ _)); exact BK287.out) hb); have n2_ := Aside0.mk (below_step (by repeat (first | (with_reducible first | exact HB.out | apply below_alloc | apply pw_below_drewN | apply below_drew1 | refine below_set ?_ GE287.out) | exact HB.out)) hb); clear HO291; clear BK287; clear HB; have HO291 := n0_; have BK287 := n1_; have HB := n2_; clear n0_ n1_ n2_; (try clear hb); (try clear hb2); (try clear hk); (try clear hi); have hcz20_0 : w19.cell? ⟨gb287, 0, none⟩ = some (.slice Ao17 t289.length co17) := (blk_cell BK287.out 0).trans rfl; have hfz20_0 := blk_frozen BK287.out 0) | ((with_reducible refine gate_callee (f := 10) rfl ?_); refine goesL_ (some 22) rfl rfl Tryd.func10 (by kernel_rfl) rfl #[.agg #[.slice Ao17 t289.length co17]] rfl (by (try simp only [List.map_toArray, List.map_cons, List.map_nil]); first | done | rfl | (simp only [List.length_drop, List.length_take]; rfl)) ?_; (with_reducible refine (gramaryelaw22_Few.calls k _ _ t289 t294 _ ?side1 ?side2 A8.out).mono ?_); (case side1 => repeat (first | exact (Kd.S_reads' HO291.out).2.2 | (with_reducible refine Kd.C_alloc ?_ _) | (with_reducible refine Kd.C_drewN ?_ _) | (with_reducible refine Kd.C_drew ?_))); (case side2 => exact (Kd.S_reads' HO291.out).2.1); rintro e w21 ⟨v295, rfl, ho0, hb⟩; refine ⟨_, rfl, ?_⟩; have n0_ := Aside0.mk (Kd.S_elder' (by (with_reducible repeat (first | apply Kd.S_alloc | apply Kd.S_drewN | apply Kd.S_drew)); exact HO291.out) (Kd.S_base ho0) hb); have n1_ := Aside0.mk (Kd.S_lower (Kd.S_new' ho0 (Kd.S_lt (by (with_reducible repeat (first | apply Kd.S_alloc | apply Kd.S_drewN | apply Kd.S_drew)); exact HO291.out))) (below_size (by repeat (first | (with_reducible first | exact HB.out | apply below_alloc | apply pw_below_drewN | apply below_drew1 | refine below_set ?_ GE287.out) | exact HB.out)))); have n2_ := Aside0.mk (blk_below (g := gb287) (o := .cells #[.slice Ao17 t289.length co17] 24 (0, 0)) (by (with_reducible repeat (first | refine blk_drewN ?_ _ | refine blk_drew ?_ | refine blk_alloc ?_ _)); exact BK287.out) hb); have n3_ := Aside0.mk (below_step (by repeat (first | (with_reducible first | exact HB.out | apply below_alloc | apply pw_below_drewN | apply below_drew1 | refine below_set ?_ GE287.out) | exact HB.out)) hb); clear HO291; clear BK287; clear HB; have HO291 := n0_; have HO296 := n1_; have BK287 := n2_; have HB := n3_; clear n0_ n1_ n2_ n3_; (try clear hb); (try clear hb2); (try clear hk); (try clear hi); (try clear ho0)) | ((with_reducible refine gate_dst (N := 5) rfl ?_); refine box_event ?hg (N := 5) ?hd (cs := #[.slice none 0 0]) (t := 24) ?hr ?_; (case hd => rfl); (case hg => rfl); (case hr => first | (go_simp; done) | (go_simp; rfl)); intro gb297 hg w22 hbox hb; have n0_ := Aside0.mk (Kd.S_below (by (with_reducible repeat (first | apply Kd.S_alloc | apply Kd.S_drewN | apply Kd.S_drew)); exact HO291.out) hb); have n1_ := Aside0.mk (Kd.S_below (by (with_reducible repeat (first | apply Kd.S_alloc | apply Kd.S_drewN | apply Kd.S_drew)); exact HO296.out) hb); have n2_ := Aside0.mk (blk_below (g := gb287) (o := .cells #[.slice Ao17 t289.length co17] 24 (0, 0)) (by (with_reducible repeat (first | refine blk_drewN ?_ _ | refine blk_drew ?_ | refine blk_alloc ?_ _)); exact BK287.out) hb); have n3_ := Aside0.mk (below_step (by repeat (first | (with_reducible first | exact HB.out | apply below_alloc | apply pw_below_drewN | apply below_drew1 | refine below_set ?_ GE287.out) | exact HB.out)) hb); have n4_ := Aside0.mk (hbox); have n5_ := Aside0.mk ((by rw [hg]; exact (below_size (by repeat (first | (with_reducible first | exact HB.out | apply below_alloc | apply pw_below_drewN | apply below_drew1 | refine below_set ?_ GE287.out) | exact HB.out))) : w.heap.size ≤ gb297)); have n6_ := Aside0.mk ((by rw [hg]; exact (below_size (by repeat (first | (with_reducible first | exact HB.out | apply below_alloc | apply pw_below_drewN | apply below_drew1 | refine below_set ?_ GE287.out) | exact HB.out))) : w.heap.size ≤ gb297)); have n7_ := Aside0.mk ((by rw [hg]; exact Nat.ne_of_lt (blk_lt (g := gb287) (o := .cells #[.slice Ao17 t289.length co17] 24 (0, 0)) (by (with_reducible repeat (first | refine blk_drewN ?_ _ | refine blk_drew ?_ | refine blk_alloc ?_ _)); exact BK287.out)) : gb287 ≠ gb297)); have n8_ := Aside0.mk ((by rw [hg]; exact Nat.ne_of_gt (blk_lt (g := gb287) (o := .cells #[.slice Ao17 t289.length co17] 24 (0, 0)) (by (with_reducible repeat (first | refine blk_drewN ?_ _ | refine blk_drew ?_ | refine blk_alloc ?_ _)); exact BK287.out)) : gb297 ≠ gb287)); clear HO291; clear HO296; clear BK287; clear HB; have HO291 := n0_; have HO296 := n1_; have BK287 := n2_; have HB := n3_; have BK297 := n4_; have GW297 := n5_; have GE297 := n6_; have NB287_297 := n7_; have NB297_287 := n8_; clear n0_ n1_ n2_ n3_ n4_ n5_ n6_ n7_ n8_; clear hb hbox hg; obtain ⟨Ao23, co23, eo23⟩ := Kd.S_slice HO296.out; subst eo23; have hnb24 := NB297_287.out; have hnc24 := NB287_297.out; have hcz25_0 : w22.cell? ⟨gb297, 0, none⟩ = some (.slice none 0 0) := (blk_cell BK297.out 0).trans rfl; have hfz25_0 := blk_frozen BK297.out 0) | ((with_reducible refine gate_store (t := 24) (p := 5) rfl ?_); refine store_event (t := 24) (p := 5) (v := ?vo_w26) (w1 := (w22.setCell ⟨gb297, 0, none⟩ (.slice Ao23 t294.length co23))) ?hg ?ho ?hn ?hr ?_; (case ho => rfl); (case hg => rfl); (case hn => rfl); (case hr => first | (go_simp; done) | (go_simp; rfl)); intro w26 hw; have n0_ : Aside0 (Kd.S k33 33 w26 w.heap.size (fun k_ => some k_ ≠ (.slice Ao23 t294.length co23 : Value).ownBlock) (.slice Ao17 t289.length co17) t289) := ⟨(by rw [hw]; exact (by (with_reducible repeat (first | apply Kd.S_alloc | apply Kd.S_drewN | apply Kd.S_drew)); exact Kd.S_mono (Kd.S_far (p := ⟨gb297, 0, none⟩) (Kd.S_types HO291.out BK297.out (by decide)) (fun _ hk => hk.2) (.slice Ao23 t294.length co23)) (fun _ hk => hk.1.2)))⟩; have n1_ : Aside0 (Kd.S k33 33 w26 w.heap.size (fun k_ => some k_ ≠ (.slice Ao17 t289.length co17 : Value).ownBlock) (.slice Ao23 t294.length co23) t294) := ⟨(by rw [hw]; exact (by (with_reducible repeat (first | apply Kd.S_alloc | apply Kd.S_drewN | apply Kd.S_drew)); exact Kd.S_mono (Kd.S_far (p := ⟨gb297, 0, none⟩) (Kd.S_types HO296.out BK297.out (by decide)) (fun _ hk => hk.2) (.slice Ao23 t294.length co23)) (fun _ hk => hk.1.2)))⟩; have n2_ : Aside0 (w26.heap[gb287]? = some (.cells #[.slice Ao17 t289.length co17] 24 (0, 0))) := ⟨(by rw [hw]; exact (by (with_reducible repeat (first | refine blk_drewN ?_ _ | refine blk_drew ?_ | refine blk_alloc ?_ _)); refine blk_far ?_ NB287_297.out _; (with_reducible repeat (first | refine blk_drewN ?_ _ | refine blk_drew ?_ | refine blk_alloc ?_ _)); exact BK287.out))⟩; have n3_ : Aside0 (w26.heap[gb297]? = some (.cells #[.slice Ao23 t294.length co23] 24 (0, 0))) := ⟨(by rw [hw]; exact (by (with_reducible repeat (first | refine blk_drewN ?_ _ | refine blk_drew ?_ | refine blk_alloc ?_ _)); refine blk_put (cs := #[.slice none 0 0]) ?_ 0 _ rfl; (with_reducible repeat (first | refine blk_drewN ?_ _ | refine blk_drew ?_ | refine blk_alloc ?_ _)); exact BK297.out))⟩; have n4_ : Aside0 (Below w.heap.size w w26) := ⟨(by rw [hw]; exact (by repeat (first | (with_reducible first | exact HB.out | apply below_alloc | apply pw_below_drewN | apply below_drew1 | refine below_set ?_ GE287.out | refine below_set ?_ GE297.out) | exact HB.out)))⟩; clear hw; clear HO291; clear HO296; clear BK287; clear BK297; clear HB; have HO291 := n0_; have HO296 := n1_; have BK287 := n2_; have BK297 := n3_; have HB := n4_; clear n0_ n1_ n2_ n3_ n4_; have hcz27_0 : w26.cell? ⟨gb297, 0, none⟩ = some (.slice Ao23 t294.length co23) := (blk_cell BK297.out 0).trans rfl; have hfz27_0 := blk_frozen BK297.out 0) | ((with_reducible refine gate_callee (f := 25) rfl ?_); refine goesL_ (some 27) rfl rfl Tryd.func25 (by kernel_rfl) rfl #[.int .i64 a1, .int .i64 (t294.length : Int)] rfl (by (try simp only [List.map_toArray, List.map_cons, List.map_nil]); first | done | rfl | (simp only [List.length_drop, List.length_take]; rfl)) ?_; (with_reducible refine (gramaryebase_Among.calls a1 (t294.length : Int) t298 _ A9.out).mono ?_); rintro e w' ⟨rfl, ⟨nd, rfl⟩⟩; refine ⟨_, rfl, ?_⟩; have p299 : 0 ≤ (t298 : Int) := of_decide_eq_true (by first | (with_reducible assumption) | assumption); have q299 : t298 < (t294.length : Int) := of_decide_eq_true (by first | (with_reducible assumption) | assumption); obtain ⟨ad299, A299_5, c299_5, e299, hx299_0, hx299_1, hx299_2, hx299_3, hx299_4, hx299_5, hl299_5, hi299_5⟩ := at_T33 (Kd.S_reads' HO296.out).2.2 t298 p299 q299; cases e299; obtain ⟨ce299, hce299, hMe299, hcc299⟩ := Kd.S_get HO296.out z33 t298 p299 (by first | exact q299 | exact of_decide_eq_true (by first | (with_reducible assumption) | assumption) | (have e_ := (Kd.S_reads' HO296.out).1; omega)); obtain ⟨ve299_5, rfl, ge299_5⟩ := k33_openM hMe299; have hv299_5 := hcc299 5 _ rfl; rw [add_field _ _ 5 (by omega)] at hv299_5; replace hv299_5 := Option.some.inj (hv299_5.symm.trans hx299_5); rw [hv299_5] at ge299_5; have HL299_5 := Aside0.mk (show Kd.R (Kd.int .i64) 3 _ _ _ _ ((rd_T33 t294 t298).f5) from ge299_5); clear hv299_5 ge299_5; clear hcc299 hce299; have HR299_5 := Aside0.mk hi299_5; have HC299_5 := Aside0.mk hl299_5; clear hi299_5 hl299_5; replace p299 := eq_true p299; replace q299 := eq_true q299))
      go_ret
      exact ⟨by first | rfl | (simp [errW_none, errW_some] <;> rfl) | (simp [*, errW_none, errW_some] <;> rfl), by repeat (first | (with_reducible first | exact HB.out | apply below_alloc | apply pw_below_drewN | apply below_drew1 | refine below_set ?_ GE287.out | refine below_set ?_ GE297.out) | exact HB.out)⟩
     ·
      rw [if_neg c12] at H
      have c12b0 : decide (40 ≤ ((rd_T33 t294 t298).f1)) = false := decide_eq_false c12
      clear c12
      obtain ⟨y301, hy301⟩ : ∃ y_ : List (S33), y_ = (t294.set (t298 : Int).toNat (⟨(rd_T33 t294 t298).f0, wrap64 (((rd_T33 t294 t298).f1) + 1), (rd_T33 t294 t298).f2, (rd_T33 t294 t298).f3, (rd_T33 t294 t298).f4, (rd_T33 t294 t298).f5⟩ : S33)) := ⟨_, rfl⟩
      replace H : (if ((rd_T33 y301 t298).f0) = 3 then ((tree_May.f y301).bind fun t303 => (if t303 = 4 then ((tree_Same.f t289 t289).bind fun t304 => (some t304)) else (some false))) else (gramaryelaw22_TreeApart.l0 k (([] : List ByteArray)) (([] : List ByteArray)) 0 t289 y301)) = some r := by first | (rw [hy301]; with_reducible exact H) | (have H2_ := (Option.bind_some _ _).symm.trans H; rw [hy301]; with_reducible exact H2_) | (have H2_ := (Option.bind_some _ _).symm.trans H; with_reducible exact H2_) | with_reducible exact H | (rw [hy301]; exact H) | exact H
      have Ny301 := Aside0.mk hy301
      clear hy301
      by_cases c29 : ((rd_T33 y301 t298).f0) = 3
      ·
       rw [if_pos c29] at H
       have c29b0 : (((rd_T33 y301 t298).f0) == 3) = true := beq_iff_eq.mpr c29
       have c29b1 : (((rd_T33 y301 t298).f0) != 3) = false := bne_eq_false_iff_eq.mpr c29
       clear c29
       replace H := Option.bind_eq_some_iff.mp H
       obtain ⟨t303, A300, H⟩ := H
       replace H : (if t303 = 4 then ((tree_Same.f t289 t289).bind fun t304 => (some t304)) else (some false)) = some r := H
       have A30 := Aside0.mk A300
       clear A300
       by_cases c31 : t303 = 4
       ·
        rw [if_pos c31] at H
        have c31b0 : (t303 == 4) = true := beq_iff_eq.mpr c31
        have c31b1 : (t303 != 4) = false := bne_eq_false_iff_eq.mpr c31
        clear c31
        replace H := Option.bind_eq_some_iff.mp H
        obtain ⟨t304, A320, H⟩ := H
        replace H : (some t304) = some r := H
        have A32 := Aside0.mk A320
        clear A320
        obtain rfl := Option.some.inj H
        go_enter Tryd.func5, Tryd.ntmps5
        go_wp2_with (first | ((with_reducible refine gate_dst (N := 2) rfl ?_); refine box_event ?hg (N := 2) ?hd (cs := #[.slice A0_0 l0_0.length c0_0]) (t := 24) ?hr ?_; (case hd => rfl); (case hg => rfl); (case hr => first | (go_simp; done) | (go_simp; rfl)); intro gb287 hg w33 hbox hb; have n0_ := Aside0.mk (below_step (by repeat (first | (with_reducible first | exact HB.out | apply below_alloc | apply pw_below_drewN | apply below_drew1) | exact HB.out)) hb); have n1_ := Aside0.mk (hbox); have n2_ := Aside0.mk ((by rw [hg]; exact (below_size (by repeat (first | (with_reducible first | exact HB.out | apply below_alloc | apply pw_below_drewN | apply below_drew1) | exact HB.out))) : w.heap.size ≤ gb287)); have n3_ := Aside0.mk ((by rw [hg]; exact (below_size (by repeat (first | (with_reducible first | exact HB.out | apply below_alloc | apply pw_below_drewN | apply below_drew1) | exact HB.out))) : w.heap.size ≤ gb287)); clear HB; have HB := n0_; have BK287 := n1_; have GW287 := n2_; have GE287 := n3_; clear n0_ n1_ n2_ n3_; clear hb hbox hg) | ((with_reducible refine gate_callee (f := 16) rfl ?_); refine goesL_ (some 10) rfl rfl Tryd.func16 (by kernel_rfl) rfl #[] rfl (by (try simp only [List.map_toArray, List.map_cons, List.map_nil]); first | done | rfl | (simp only [List.length_drop, List.length_take]; rfl)) ?_; (with_reducible refine (gramaryelaw22_works.calls  true _ ?side1 A3.out).mono ?_); (case side1 => exact GL_below HG.out (by repeat (first | (with_reducible first | exact HB.out | apply below_alloc | apply pw_below_drewN | apply below_drew1 | refine below_set ?_ GE287.out) | exact HB.out))); rintro e w34 ⟨rfl, hb⟩; refine ⟨_, rfl, ?_⟩; have n0_ := Aside0.mk (blk_below (g := gb287) (o := .cells #[.slice A0_0 l0_0.length c0_0] 24 (0, 0)) (by (with_reducible repeat (first | refine blk_drewN ?_ _ | refine blk_drew ?_ | refine blk_alloc ?_ _)); exact BK287.out) hb); have n1_ := Aside0.mk (below_step (by repeat (first | (with_reducible first | exact HB.out | apply below_alloc | apply pw_below_drewN | apply below_drew1 | refine below_set ?_ GE287.out) | exact HB.out)) hb); clear BK287; clear HB; have BK287 := n0_; have HB := n1_; clear n0_ n1_; (try clear hb); (try clear hb2); (try clear hk); (try clear hi); have hcz35_0 : w34.cell? ⟨gb287, 0, none⟩ = some (.slice A0_0 l0_0.length c0_0) := (blk_cell BK287.out 0).trans rfl; have hfz35_0 := blk_frozen BK287.out 0) | ((with_reducible refine gate_callee (f := 10) rfl ?_); refine goesL_ (some 13) rfl rfl Tryd.func10 (by kernel_rfl) rfl #[.agg #[.slice A0_0 l0_0.length c0_0]] rfl (by (try simp only [List.map_toArray, List.map_cons, List.map_nil]); first | done | rfl | (simp only [List.length_drop, List.length_take]; rfl)) ?_; (with_reducible refine (gramaryelaw22_Few.calls k _ _ l0_0 t289 _ ?side1 ?side2 A5.out).mono ?_); (case side1 => repeat (first | exact (Kd.C_below HR0_0.out HB.out) | (with_reducible refine Kd.C_alloc ?_ _) | (with_reducible refine Kd.C_drewN ?_ _) | (with_reducible refine Kd.C_drew ?_))); (case side2 => exact HC0_0.out); rintro e w36 ⟨v290, rfl, ho0, hb⟩; refine ⟨_, rfl, ?_⟩; have n0_ := Aside0.mk (Kd.S_lower ho0 (below_size (by repeat (first | (with_reducible first | exact HB.out | apply below_alloc | apply pw_below_drewN | apply below_drew1 | refine below_set ?_ GE287.out) | exact HB.out)))); have n1_ := Aside0.mk (blk_below (g := gb287) (o := .cells #[.slice A0_0 l0_0.length c0_0] 24 (0, 0)) (by (with_reducible repeat (first | refine blk_drewN ?_ _ | refine blk_drew ?_ | refine blk_alloc ?_ _)); exact BK287.out) hb); have n2_ := Aside0.mk (below_step (by repeat (first | (with_reducible first | exact HB.out | apply below_alloc | apply pw_below_drewN | apply below_drew1 | refine below_set ?_ GE287.out) | exact HB.out)) hb); clear BK287; clear HB; have HO291 := n0_; have BK287 := n1_; have HB := n2_; clear n0_ n1_ n2_; (try clear hb); (try clear hb2); (try clear hk); (try clear hi); (try clear ho0); obtain ⟨Ao37, co37, eo37⟩ := Kd.S_slice HO291.out; subst eo37; have hcz38_0 : w36.cell? ⟨gb287, 0, none⟩ = some (.slice A0_0 l0_0.length c0_0) := (blk_cell BK287.out 0).trans rfl; have hfz38_0 := blk_frozen BK287.out 0) | ((with_reducible refine gate_callee (f := 11) rfl ?_); refine goesL_ (some 15) rfl rfl Tryd.func11 (by kernel_rfl) rfl #[.agg #[.slice Ao37 t289.length co37]] rfl (by (try simp only [List.map_toArray, List.map_cons, List.map_nil]); first | done | rfl | (simp only [List.length_drop, List.length_take]; rfl)) ?_; (with_reducible refine (tree_May.calls _ _ t289 t292 _ ?side1 ?side2 ?side3 A6.out).mono ?_); (case side1 => refine (Kd.S_reads' (e := 33) (base := w.heap.size) (ok := fun k_ => True) (n := t289.length) (c := co37) ?_).2.2; exact (by (with_reducible repeat (first | apply Kd.S_alloc | apply Kd.S_drewN | apply Kd.S_drew)); exact (Kd.S_mono (Kd.S_far (p := ⟨gb287, 0, none⟩) (Kd.S_types HO291.out BK287.out (by decide)) (fun _ hk => hk.2) (.slice Ao37 t289.length co37)) (fun _ h_ => h_.1)))); (case side2 => exact (Kd.S_reads' HO291.out).2.1); (case side3 => exact GL_below HG.out (by repeat (first | (with_reducible first | exact HB.out | apply below_alloc | apply pw_below_drewN | apply below_drew1 | refine below_set ?_ GE287.out) | exact HB.out))); rintro e w39 ⟨rfl, hb⟩; refine ⟨_, rfl, ?_⟩; have n0_ := Aside0.mk (Kd.S_below (by (with_reducible repeat (first | apply Kd.S_alloc | apply Kd.S_drewN | apply Kd.S_drew)); exact (Kd.S_mono (Kd.S_far (p := ⟨gb287, 0, none⟩) (Kd.S_types HO291.out BK287.out (by decide)) (fun _ hk => hk.2) (.slice Ao37 t289.length co37)) (fun _ h_ => h_.1))) hb); have n1_ := Aside0.mk (blk_below (g := gb287) (o := .cells #[.slice Ao37 t289.length co37] 24 (0, 0)) (by (with_reducible repeat (first | refine blk_drewN ?_ _ | refine blk_drew ?_ | refine blk_alloc ?_ _)); refine blk_put (cs := #[.slice A0_0 l0_0.length c0_0]) ?_ 0 _ rfl; (with_reducible repeat (first | refine blk_drewN ?_ _ | refine blk_drew ?_ | refine blk_alloc ?_ _)); exact BK287.out) hb); have n2_ := Aside0.mk (below_step (by repeat (first | (with_reducible first | exact HB.out | apply below_alloc | apply pw_below_drewN | apply below_drew1 | refine below_set ?_ GE287.out) | exact HB.out)) hb); clear HO291; clear BK287; clear HB; have HO291 := n0_; have BK287 := n1_; have HB := n2_; clear n0_ n1_ n2_; (try clear hb); (try clear hb2); (try clear hk); (try clear hi); have hcz40_0 : w39.cell? ⟨gb287, 0, none⟩ = some (.slice Ao37 t289.length co37) := (blk_cell BK287.out 0).trans rfl; have hfz40_0 := blk_frozen BK287.out 0) | ((with_reducible refine gate_callee (f := 10) rfl ?_); refine goesL_ (some 22) rfl rfl Tryd.func10 (by kernel_rfl) rfl #[.agg #[.slice Ao37 t289.length co37]] rfl (by (try simp only [List.map_toArray, List.map_cons, List.map_nil]); first | done | rfl | (simp only [List.length_drop, List.length_take]; rfl)) ?_; (with_reducible refine (gramaryelaw22_Few.calls k _ _ t289 t294 _ ?side1 ?side2 A8.out).mono ?_); (case side1 => repeat (first | exact (Kd.S_reads' HO291.out).2.2 | (with_reducible refine Kd.C_alloc ?_ _) | (with_reducible refine Kd.C_drewN ?_ _) | (with_reducible refine Kd.C_drew ?_))); (case side2 => exact (Kd.S_reads' HO291.out).2.1); rintro e w41 ⟨v295, rfl, ho0, hb⟩; refine ⟨_, rfl, ?_⟩; have n0_ := Aside0.mk (Kd.S_elder' (by (with_reducible repeat (first | apply Kd.S_alloc | apply Kd.S_drewN | apply Kd.S_drew)); exact HO291.out) (Kd.S_base ho0) hb); have n1_ := Aside0.mk (Kd.S_lower (Kd.S_new' ho0 (Kd.S_lt (by (with_reducible repeat (first | apply Kd.S_alloc | apply Kd.S_drewN | apply Kd.S_drew)); exact HO291.out))) (below_size (by repeat (first | (with_reducible first | exact HB.out | apply below_alloc | apply pw_below_drewN | apply below_drew1 | refine below_set ?_ GE287.out) | exact HB.out)))); have n2_ := Aside0.mk (blk_below (g := gb287) (o := .cells #[.slice Ao37 t289.length co37] 24 (0, 0)) (by (with_reducible repeat (first | refine blk_drewN ?_ _ | refine blk_drew ?_ | refine blk_alloc ?_ _)); exact BK287.out) hb); have n3_ := Aside0.mk (below_step (by repeat (first | (with_reducible first | exact HB.out | apply below_alloc | apply pw_below_drewN | apply below_drew1 | refine below_set ?_ GE287.out) | exact HB.out)) hb); clear HO291; clear BK287; clear HB; have HO291 := n0_; have HO296 := n1_; have BK287 := n2_; have HB := n3_; clear n0_ n1_ n2_ n3_; (try clear hb); (try clear hb2); (try clear hk); (try clear hi); (try clear ho0)) | ((with_reducible refine gate_dst (N := 5) rfl ?_); refine box_event ?hg (N := 5) ?hd (cs := #[.slice none 0 0]) (t := 24) ?hr ?_; (case hd => rfl); (case hg => rfl); (case hr => first | (go_simp; done) | (go_simp; rfl)); intro gb297 hg w42 hbox hb; have n0_ := Aside0.mk (Kd.S_below (by (with_reducible repeat (first | apply Kd.S_alloc | apply Kd.S_drewN | apply Kd.S_drew)); exact HO291.out) hb); have n1_ := Aside0.mk (Kd.S_below (by (with_reducible repeat (first | apply Kd.S_alloc | apply Kd.S_drewN | apply Kd.S_drew)); exact HO296.out) hb); have n2_ := Aside0.mk (blk_below (g := gb287) (o := .cells #[.slice Ao37 t289.length co37] 24 (0, 0)) (by (with_reducible repeat (first | refine blk_drewN ?_ _ | refine blk_drew ?_ | refine blk_alloc ?_ _)); exact BK287.out) hb); have n3_ := Aside0.mk (below_step (by repeat (first | (with_reducible first | exact HB.out | apply below_alloc | apply pw_below_drewN | apply below_drew1 | refine below_set ?_ GE287.out) | exact HB.out)) hb); have n4_ := Aside0.mk (hbox); have n5_ := Aside0.mk ((by rw [hg]; exact (below_size (by repeat (first | (with_reducible first | exact HB.out | apply below_alloc | apply pw_below_drewN | apply below_drew1 | refine below_set ?_ GE287.out) | exact HB.out))) : w.heap.size ≤ gb297)); have n6_ := Aside0.mk ((by rw [hg]; exact (below_size (by repeat (first | (with_reducible first | exact HB.out | apply below_alloc | apply pw_below_drewN | apply below_drew1 | refine below_set ?_ GE287.out) | exact HB.out))) : w.heap.size ≤ gb297)); have n7_ := Aside0.mk ((by rw [hg]; exact Nat.ne_of_lt (blk_lt (g := gb287) (o := .cells #[.slice Ao37 t289.length co37] 24 (0, 0)) (by (with_reducible repeat (first | refine blk_drewN ?_ _ | refine blk_drew ?_ | refine blk_alloc ?_ _)); exact BK287.out)) : gb287 ≠ gb297)); have n8_ := Aside0.mk ((by rw [hg]; exact Nat.ne_of_gt (blk_lt (g := gb287) (o := .cells #[.slice Ao37 t289.length co37] 24 (0, 0)) (by (with_reducible repeat (first | refine blk_drewN ?_ _ | refine blk_drew ?_ | refine blk_alloc ?_ _)); exact BK287.out)) : gb297 ≠ gb287)); clear HO291; clear HO296; clear BK287; clear HB; have HO291 := n0_; have HO296 := n1_; have BK287 := n2_; have HB := n3_; have BK297 := n4_; have GW297 := n5_; have GE297 := n6_; have NB287_297 := n7_; have NB297_287 := n8_; clear n0_ n1_ n2_ n3_ n4_ n5_ n6_ n7_ n8_; clear hb hbox hg; obtain ⟨Ao43, co43, eo43⟩ := Kd.S_slice HO296.out; subst eo43; have hnb44 := NB297_287.out; have hnc44 := NB287_297.out; have hcz45_0 : w42.cell? ⟨gb297, 0, none⟩ = some (.slice none 0 0) := (blk_cell BK297.out 0).trans rfl; have hfz45_0 := blk_frozen BK297.out 0) | ((with_reducible refine gate_store (t := 24) (p := 5) rfl ?_); refine store_event (t := 24) (p := 5) (v := ?vo_w46) (w1 := (w42.setCell ⟨gb297, 0, none⟩ (.slice Ao43 t294.length co43))) ?hg ?ho ?hn ?hr ?_; (case ho => rfl); (case hg => rfl); (case hn => rfl); (case hr => first | (go_simp; done) | (go_simp; rfl)); intro w46 hw; have n0_ : Aside0 (Kd.S k33 33 w46 w.heap.size (fun k_ => some k_ ≠ (.slice Ao43 t294.length co43 : Value).ownBlock) (.slice Ao37 t289.length co37) t289) := ⟨(by rw [hw]; exact (by (with_reducible repeat (first | apply Kd.S_alloc | apply Kd.S_drewN | apply Kd.S_drew)); exact Kd.S_mono (Kd.S_far (p := ⟨gb297, 0, none⟩) (Kd.S_types HO291.out BK297.out (by decide)) (fun _ hk => hk.2) (.slice Ao43 t294.length co43)) (fun _ hk => hk.1.2)))⟩; have n1_ : Aside0 (Kd.S k33 33 w46 w.heap.size (fun k_ => some k_ ≠ (.slice Ao37 t289.length co37 : Value).ownBlock) (.slice Ao43 t294.length co43) t294) := ⟨(by rw [hw]; exact (by (with_reducible repeat (first | apply Kd.S_alloc | apply Kd.S_drewN | apply Kd.S_drew)); exact Kd.S_mono (Kd.S_far (p := ⟨gb297, 0, none⟩) (Kd.S_types HO296.out BK297.out (by decide)) (fun _ hk => hk.2) (.slice Ao43 t294.length co43)) (fun _ hk => hk.1.2)))⟩; have n2_ : Aside0 (w46.heap[gb287]? = some (.cells #[.slice Ao37 t289.length co37] 24 (0, 0))) := ⟨(by rw [hw]; exact (by (with_reducible repeat (first | refine blk_drewN ?_ _ | refine blk_drew ?_ | refine blk_alloc ?_ _)); refine blk_far ?_ NB287_297.out _; (with_reducible repeat (first | refine blk_drewN ?_ _ | refine blk_drew ?_ | refine blk_alloc ?_ _)); exact BK287.out))⟩; have n3_ : Aside0 (w46.heap[gb297]? = some (.cells #[.slice Ao43 t294.length co43] 24 (0, 0))) := ⟨(by rw [hw]; exact (by (with_reducible repeat (first | refine blk_drewN ?_ _ | refine blk_drew ?_ | refine blk_alloc ?_ _)); refine blk_put (cs := #[.slice none 0 0]) ?_ 0 _ rfl; (with_reducible repeat (first | refine blk_drewN ?_ _ | refine blk_drew ?_ | refine blk_alloc ?_ _)); exact BK297.out))⟩; have n4_ : Aside0 (Below w.heap.size w w46) := ⟨(by rw [hw]; exact (by repeat (first | (with_reducible first | exact HB.out | apply below_alloc | apply pw_below_drewN | apply below_drew1 | refine below_set ?_ GE287.out | refine below_set ?_ GE297.out) | exact HB.out)))⟩; clear hw; clear HO291; clear HO296; clear BK287; clear BK297; clear HB; have HO291 := n0_; have HO296 := n1_; have BK287 := n2_; have BK297 := n3_; have HB := n4_; clear n0_ n1_ n2_ n3_ n4_; have hcz47_0 : w46.cell? ⟨gb297, 0, none⟩ = some (.slice Ao43 t294.length co43) := (blk_cell BK297.out 0).trans rfl; have hfz47_0 := blk_frozen BK297.out 0) | ((with_reducible refine gate_callee (f := 25) rfl ?_); refine goesL_ (some 27) rfl rfl Tryd.func25 (by kernel_rfl) rfl #[.int .i64 a1, .int .i64 (t294.length : Int)] rfl (by (try simp only [List.map_toArray, List.map_cons, List.map_nil]); first | done | rfl | (simp only [List.length_drop, List.length_take]; rfl)) ?_; (with_reducible refine (gramaryebase_Among.calls a1 (t294.length : Int) t298 _ A9.out).mono ?_); rintro e w' ⟨rfl, ⟨nd, rfl⟩⟩; refine ⟨_, rfl, ?_⟩; (try (rw [drewN_self w46]; generalize hq_ : World.drewN w46 _ = w46; have n0_ : Aside0 (Kd.S k33 33 w46 w.heap.size (fun k_ => some k_ ≠ (.slice Ao43 t294.length co43 : Value).ownBlock) (.slice Ao37 t289.length co37) t289) := ⟨by rw [← hq_]; exact (by (with_reducible repeat (first | apply Kd.S_alloc | apply Kd.S_drewN | apply Kd.S_drew)); exact HO291.out)⟩; have n1_ : Aside0 (Kd.S k33 33 w46 w.heap.size (fun k_ => some k_ ≠ (.slice Ao37 t289.length co37 : Value).ownBlock) (.slice Ao43 t294.length co43) t294) := ⟨by rw [← hq_]; exact (by (with_reducible repeat (first | apply Kd.S_alloc | apply Kd.S_drewN | apply Kd.S_drew)); exact HO296.out)⟩; have n2_ : Aside0 (w46.heap[gb287]? = some (.cells #[.slice Ao37 t289.length co37] 24 (0, 0))) := ⟨by rw [← hq_]; exact (by (with_reducible repeat (first | refine blk_drewN ?_ _ | refine blk_drew ?_ | refine blk_alloc ?_ _)); exact BK287.out)⟩; have n3_ : Aside0 (w46.heap[gb297]? = some (.cells #[.slice Ao43 t294.length co43] 24 (0, 0))) := ⟨by rw [← hq_]; exact (by (with_reducible repeat (first | refine blk_drewN ?_ _ | refine blk_drew ?_ | refine blk_alloc ?_ _)); exact BK297.out)⟩; have n4_ : Aside0 (Below w.heap.size w w46) := ⟨by rw [← hq_]; exact (by repeat (first | (with_reducible first | exact HB.out | apply below_alloc | apply pw_below_drewN | apply below_drew1 | refine below_set ?_ GE287.out | refine below_set ?_ GE297.out) | exact HB.out))⟩; clear HO291 HO296 BK287 BK297 HB hq_; have HO291 := n0_; have HO296 := n1_; have BK287 := n2_; have BK297 := n3_; have HB := n4_; clear n0_ n1_ n2_ n3_ n4_; (try (have hczq287_0 := blk_cell BK287.out 0; simp only [List.getElem?_toArray, List.getElem?_cons_zero] at hczq287_0; have hfzq287_0 := blk_frozen BK287.out 0)); (try (have hczq297_0 := blk_cell BK297.out 0; simp only [List.getElem?_toArray, List.getElem?_cons_zero] at hczq297_0; have hfzq297_0 := blk_frozen BK297.out 0)))); have p299 : 0 ≤ (t298 : Int) := of_decide_eq_true (by first | (with_reducible assumption) | assumption); have q299 : t298 < (t294.length : Int) := of_decide_eq_true (by first | (with_reducible assumption) | assumption); obtain ⟨ad299, A299_5, c299_5, e299, hx299_0, hx299_1, hx299_2, hx299_3, hx299_4, hx299_5, hl299_5, hi299_5⟩ := at_T33 (Kd.S_reads' HO296.out).2.2 t298 p299 q299; cases e299; obtain ⟨ce299, hce299, hMe299, hcc299⟩ := Kd.S_get HO296.out z33 t298 p299 (by first | exact q299 | exact of_decide_eq_true (by first | (with_reducible assumption) | assumption) | (have e_ := (Kd.S_reads' HO296.out).1; omega)); obtain ⟨ve299_5, rfl, ge299_5⟩ := k33_openM hMe299; have hv299_5 := hcc299 5 _ rfl; rw [add_field _ _ 5 (by omega)] at hv299_5; replace hv299_5 := Option.some.inj (hv299_5.symm.trans hx299_5); rw [hv299_5] at ge299_5; have HL299_5 := Aside0.mk (show Kd.R (Kd.int .i64) 3 _ _ _ _ ((rd_T33 t294 t298).f5) from ge299_5); clear hv299_5 ge299_5; clear hcc299 hce299; have HR299_5 := Aside0.mk hi299_5; have HC299_5 := Aside0.mk hl299_5; clear hi299_5 hl299_5; replace p299 := eq_true p299; replace q299 := eq_true q299; have p300 : 0 ≤ (t298 : Int) := of_decide_eq_true (by first | (with_reducible assumption) | assumption); have q300 : t298 < (t294.length : Int) := of_decide_eq_true (by first | (with_reducible assumption) | assumption); obtain ⟨ad300, A300_5, c300_5, e300, hx300_0, hx300_1, hx300_2, hx300_3, hx300_4, hx300_5, hl300_5, hi300_5⟩ := at_T33 (Kd.S_reads' HO296.out).2.2 t298 p300 q300; obtain rfl : ad299 = ad300 := (by injection e300); obtain ⟨ce300, hce300, hMe300, hcc300⟩ := Kd.S_get HO296.out z33 t298 p300 (by first | exact q300 | exact of_decide_eq_true (by first | (with_reducible assumption) | assumption) | (have e_ := (Kd.S_reads' HO296.out).1; omega)); obtain ⟨ve300_5, rfl, ge300_5⟩ := k33_openM hMe300; have hv300_5 := hcc300 5 _ rfl; rw [add_field _ _ 5 (by omega)] at hv300_5; replace hv300_5 := Option.some.inj (hv300_5.symm.trans hx300_5); rw [hv300_5] at ge300_5; have HL300_5 := Aside0.mk (show Kd.R (Kd.int .i64) 3 _ _ _ _ ((rd_T33 t294 t298).f5) from ge300_5); clear hv300_5 ge300_5; clear hcc300 hce300; have HR300_5 := Aside0.mk hi300_5; have HC300_5 := Aside0.mk hl300_5; clear hi300_5 hl300_5; replace p300 := eq_true p300; replace q300 := eq_true q300; have ea_ := Option.some.inj (hx299_5.symm.trans hx300_5); injection ea_ with ea_ en_ ec_; subst ea_; subst ec_; clear en_; have p28 : 0 ≤ (t298 : Int) := of_decide_eq_true (by first | (with_reducible assumption) | assumption); have q28 : (t298 : Int) < ((t294.length : Int) : Int) := of_decide_eq_true (by first | (with_reducible assumption) | assumption); obtain ⟨go28, co28, eo28, gb28, gl28, cl28, HG28⟩ := Kd.S_form HO296.out (by omega); (first | cases eo28 | (injection eo28 with ea_ en_ ec_; (first | subst ea_ | (injection ea_ with ea_; subst ea_)); subst ec_; clear en_)); have GB28 := Aside0.mk gb28; have GG28 := Aside0.mk HG28; clear gb28 gl28 HG28; (first | simp only [add_plain] at hx299_0 | skip); (first | simp only [add_plain] at hx299_1 | skip); (first | simp only [add_plain] at hx299_2 | skip); (first | simp only [add_plain] at hx299_3 | skip); (first | simp only [add_plain] at hx299_4 | skip); (first | simp only [add_plain] at hx299_5 | skip); (first | simp only [add_plain] at hx300_0 | skip); (first | simp only [add_plain] at hx300_1 | skip); (first | simp only [add_plain] at hx300_2 | skip); (first | simp only [add_plain] at hx300_3 | skip); (first | simp only [add_plain] at hx300_4 | skip); (first | simp only [add_plain] at hx300_5 | skip); obtain ⟨_, ce28, hcl28, hM28, hcc28, hfr28, _, _⟩ := Kd.S_elem HO296.out z33 (t298 : Int) p28 q28; obtain ⟨ve28_5, rfl, ge28_5⟩ := k33_openM hM28; have hx28_0 : w46.cell? ⟨go28, (t298 : Int).toNat * 6, none⟩ = some (.int .i64 ((rd_T33 t294 t298).f0)) := hcc28 0 _ rfl; have hx28_1 : w46.cell? ⟨go28, (t298 : Int).toNat * 6 + 1, none⟩ = some (.int .i64 ((rd_T33 t294 t298).f1)) := hcc28 1 _ rfl; have hx28_2 : w46.cell? ⟨go28, (t298 : Int).toNat * 6 + 2, none⟩ = some (.int .i64 ((rd_T33 t294 t298).f2)) := hcc28 2 _ rfl; have hx28_3 : w46.cell? ⟨go28, (t298 : Int).toNat * 6 + 3, none⟩ = some (.int .i64 ((rd_T33 t294 t298).f3)) := hcc28 3 _ rfl; have hx28_4 : w46.cell? ⟨go28, (t298 : Int).toNat * 6 + 4, none⟩ = some (.string ((rd_T33 t294 t298).f4)) := hcc28 4 _ rfl; have hx28_5 : w46.cell? ⟨go28, (t298 : Int).toNat * 6 + 5, none⟩ = some (ve28_5) := hcc28 5 _ rfl; have hf28_0 : w46.frozen? ⟨go28, (t298 : Int).toNat * 6, none⟩ = false := hfr28 0; have hf28_1 : w46.frozen? ⟨go28, (t298 : Int).toNat * 6 + 1, none⟩ = false := hfr28 1; have hf28_2 : w46.frozen? ⟨go28, (t298 : Int).toNat * 6 + 2, none⟩ = false := hfr28 2; have hf28_3 : w46.frozen? ⟨go28, (t298 : Int).toNat * 6 + 3, none⟩ = false := hfr28 3; have hf28_4 : w46.frozen? ⟨go28, (t298 : Int).toNat * 6 + 4, none⟩ = false := hfr28 4; have hf28_5 : w46.frozen? ⟨go28, (t298 : Int).toNat * 6 + 5, none⟩ = false := hfr28 5; clear hcl28 hcc28 hfr28 hM28; replace p28 := eq_true p28; replace q28 := eq_true q28; have HX48 := Aside0.mk (show Kd.S k33 33 w46 w.heap.size (fun k_ => ((fun k_ => some k_ ≠ (.slice Ao37 t289.length co37 : Value).ownBlock)) k_ ∧ ¬ ((fun _ => False)) k_) (.slice (some ⟨go28, 0, none⟩) t294.length co43) t294 from (by (with_reducible repeat (first | apply Kd.S_alloc | apply Kd.S_drewN | apply Kd.S_drew)); exact Kd.S_mono HO296.out (fun k_ hk => ⟨hk, fun e_ => e_⟩))); obtain ⟨oki48, ce48, hcl48, hM48, hcc48, hfr48, hoki48, hH48⟩ := Kd.S_elem HX48.out z33 (t298 : Int) (of_decide_eq_true (by first | (with_reducible assumption) | assumption)) (by have h_ : (t298 : Int) < ((t294.length : Int) : Int) := of_decide_eq_true (by first | (with_reducible assumption) | assumption); first | exact h_ | (have e_ := (Kd.S_reads' HO296.out).1; omega) | simpa using h_); obtain ⟨ve48_5, rfl, ge48_5⟩ := k33_openM hM48; have HP48 := Kd.S_seg hH48 (of_decide_eq_true (by first | (with_reducible assumption) | assumption)) (by have h_ : (t298 : Int) < ((t294.length : Int) : Int) := of_decide_eq_true (by first | (with_reducible assumption) | assumption); first | exact h_ | (have e_ := (Kd.S_reads' HO296.out).1; omega) | simpa using h_) (seg := [.int .i64 (wrap64 (((rd_T33 t294 t298).f1) + 1))]) (j := 1) (show 2 ≤ 6 from by decide) (x' := (⟨(rd_T33 t294 t298).f0, wrap64 (((rd_T33 t294 t298).f1) + 1), (rd_T33 t294 t298).f2, (rd_T33 t294 t298).f3, (rd_T33 t294 t298).f4, (rd_T33 t294 t298).f5⟩ : S33)) (k33_mkM _ _ _ (⟨(rd_T33 t294 t298).f0, wrap64 (((rd_T33 t294 t298).f1) + 1), (rd_T33 t294 t298).f2, (rd_T33 t294 t298).f3, (rd_T33 t294 t298).f4, (rd_T33 t294 t298).f5⟩ : S33) (Kd.R_mono ge48_5 (fun _ h_ => Or.inl h_))) (fun _ hk => hk) (fun k_ hk_ => hk_.elim); have hx48_1 := hcc48 1 _ rfl; (try simp only [show (k33).sz = 6 from rfl, Nat.mul_one, Nat.add_zero] at hx48_1); have hf48_1 := hfr48 1; (try simp only [show (k33).sz = 6 from rfl, Nat.mul_one, Nat.add_zero] at hf48_1); clear hcl48 hcc48 hfr48 hM48 hoki48 hH48) | ((with_reducible refine gate_store (t := 3) (p := 43) rfl ?_); refine store_event (t := 3) (p := 43) (v := ?vo_w49) (w1 := (w46.setCell ⟨go28, (t298 : Int).toNat * 6 + 1, none⟩ (.int .i64 (wrap64 (((rd_T33 t294 t298).f1) + 1))))) ?hg ?ho ?hn ?hr ?_; (case ho => rfl); (case hg => rfl); (case hn => rfl); (case hr => first | (go_simp; done) | (go_simp; rfl)); intro w49 hw; have hg : w46.grownBy w49 (some go28) := (by rw [hw]; exact HP48.2); have hp_ : Kd.S k33 33 w49 w.heap.size (fun k_ => some k_ ≠ (.slice Ao37 t289.length co37 : Value).ownBlock) (.slice (some ⟨go28, 0, none⟩) t294.length co43) y301 := (by rw [hw, Ny301.out]; exact HP48.1); clear HP48; have n0_ := Aside0.mk (blk_grown (g := gb287) (o := .cells #[.slice Ao37 t289.length co37] 24 (0, 0)) (by (with_reducible repeat (first | refine blk_drewN ?_ _ | refine blk_drew ?_ | refine blk_alloc ?_ _)); exact BK287.out) hg (Kd.S_ne HO296.out BK287.out (by decide))); have n1_ := Aside0.mk (Kd.S_after (v := (.slice (some ⟨go28, 0, none⟩) t294.length co43)) (v1 := (.slice (some ⟨go28, 0, none⟩) t294.length co43)) (ok := (fun _ => True)) (by (with_reducible repeat (first | apply Kd.S_alloc | apply Kd.S_drewN | apply Kd.S_drew)); exact Kd.S_mono HO291.out (fun _ hk => ⟨trivial, hk⟩)) hg (.inl rfl)); have n2_ := Aside0.mk (hp_); have n3_ := Aside0.mk (blk_grown (g := gb297) (o := .cells #[.slice (some ⟨go28, 0, none⟩) t294.length co43] 24 (0, 0)) (by (with_reducible repeat (first | refine blk_drewN ?_ _ | refine blk_drew ?_ | refine blk_alloc ?_ _)); exact BK297.out) hg (Kd.S_ne HO296.out BK297.out (by decide))); have n4_ := Aside0.mk (Kd.R_after (v := (.slice (some ⟨go28, 0, none⟩) t294.length co43)) (v1 := (.slice (some ⟨go28, 0, none⟩) t294.length co43)) (ok := (fun k_ => some k_ ≠ (.slice Ao37 t289.length co37 : Value).ownBlock)) (by (with_reducible repeat (first | apply Kd.R_alloc | apply Kd.R_drewN | apply Kd.R_drew)); exact HL299_5.out) hg (.inl rfl)); have n5_ := Aside0.mk (Kd.R_after (v := (.slice (some ⟨go28, 0, none⟩) t294.length co43)) (v1 := (.slice (some ⟨go28, 0, none⟩) t294.length co43)) (ok := (fun k_ => some k_ ≠ (.slice Ao37 t289.length co37 : Value).ownBlock)) (by (with_reducible repeat (first | apply Kd.R_alloc | apply Kd.R_drewN | apply Kd.R_drew)); exact HL300_5.out) hg (.inl rfl)); have n6_ := Aside0.mk ((by rw [hw]; exact below_set (HB.out) GB28.out : Below w.heap.size w w49)); clear BK287; clear HO291; clear HO296; clear BK297; clear HL299_5; clear HL300_5; clear HB; have BK287 := n0_; have HO291 := n1_; have HO296 := n2_; have BK297 := n3_; have HL299_5 := n4_; have HL300_5 := n5_; have HB := n6_; clear n0_ n1_ n2_ n3_ n4_ n5_ n6_; clear hg hw hp_; have hcz50_0 : w49.cell? ⟨gb297, 0, none⟩ = some (.slice (some ⟨go28, 0, none⟩) t294.length co43) := (blk_cell BK297.out 0).trans rfl; have hfz50_0 := blk_frozen BK297.out 0; have p302 : 0 ≤ (t298 : Int) := of_decide_eq_true (by first | (with_reducible assumption) | assumption); have q302 : t298 < (y301.length : Int) := (by have h_ : (t298 : Int) < ((t294.length : Int) : Int) := of_decide_eq_true (by first | (with_reducible assumption) | assumption); first | (have e_ := (Kd.S_reads' HO296.out).1; omega) | simpa only [Ny301.out, List.length_set] using h_); have ql302 : ((t298 : Int) < ((t294.length : Int) : Int)) = True := eq_true (of_decide_eq_true (by first | (with_reducible assumption) | assumption)); obtain ⟨ad302, A302_5, c302_5, e302, hx302_0, hx302_1, hx302_2, hx302_3, hx302_4, hx302_5, hl302_5, hi302_5⟩ := at_T33 (Kd.S_reads' HO296.out).2.2 t298 p302 q302; obtain rfl : (⟨go28, 0, none⟩ : Addr) = ad302 := (by injection e302); obtain ⟨ce302, hce302, hMe302, hcc302⟩ := Kd.S_get HO296.out z33 t298 p302 (by first | exact q302 | exact of_decide_eq_true (by first | (with_reducible assumption) | assumption) | (have e_ := (Kd.S_reads' HO296.out).1; omega)); obtain ⟨ve302_5, rfl, ge302_5⟩ := k33_openM hMe302; have hv302_5 := hcc302 5 _ rfl; rw [add_field _ _ 5 (by omega)] at hv302_5; replace hv302_5 := Option.some.inj (hv302_5.symm.trans hx302_5); rw [hv302_5] at ge302_5; have HL302_5 := Aside0.mk (show Kd.R (Kd.int .i64) 3 _ _ _ _ ((rd_T33 y301 t298).f5) from ge302_5); clear hv302_5 ge302_5; clear hcc302 hce302; (first | simp only [add_plain] at hx302_0 | simp only [add_at] at hx302_0 | simp only [Addr.add, Nat.zero_add] at hx302_0 | skip); (first | simp only [add_plain] at hx302_1 | simp only [add_at] at hx302_1 | simp only [Addr.add, Nat.zero_add] at hx302_1 | skip); (first | simp only [add_plain] at hx302_2 | simp only [add_at] at hx302_2 | simp only [Addr.add, Nat.zero_add] at hx302_2 | skip); (first | simp only [add_plain] at hx302_3 | simp only [add_at] at hx302_3 | simp only [Addr.add, Nat.zero_add] at hx302_3 | skip); (first | simp only [add_plain] at hx302_4 | simp only [add_at] at hx302_4 | simp only [Addr.add, Nat.zero_add] at hx302_4 | skip); (first | simp only [add_plain] at hx302_5 | simp only [add_at] at hx302_5 | simp only [Addr.add, Nat.zero_add] at hx302_5 | skip); have HR302_5 := Aside0.mk hi302_5; have HC302_5 := Aside0.mk hl302_5; clear hi302_5 hl302_5; replace p302 := eq_true p302; replace q302 := eq_true q302) | ((with_reducible refine gate_callee (f := 11) rfl ?_); refine goesL_ (some 52) rfl rfl Tryd.func11 (by kernel_rfl) rfl #[.agg #[.slice (some ⟨go28, 0, none⟩) y301.length co43]] rfl (by (try simp only [List.map_toArray, List.map_cons, List.map_nil]); first | done | (rw [show y301.length = t294.length from (Kd.S_reads' HO296.out).1.symm] <;> rfl) | rfl | (simp only [List.length_drop, List.length_take]; rfl)) ?_; (with_reducible refine (tree_May.calls _ _ y301 t303 _ ?side1 ?side2 ?side3 A30.out).mono ?_); (case side1 => repeat (first | exact (Kd.S_reads' HO296.out).2.2 | (with_reducible refine Kd.C_alloc ?_ _) | (with_reducible refine Kd.C_drewN ?_ _) | (with_reducible refine Kd.C_drew ?_))); (case side2 => rw [show y301.length = t294.length from (Kd.S_reads' HO296.out).1.symm]; exact (Kd.S_reads' HO296.out).2.1); (case side3 => exact GL_below HG.out (by repeat (first | (with_reducible first | exact HB.out | apply below_alloc | apply pw_below_drewN | apply below_drew1 | refine below_set ?_ GE287.out | refine below_set ?_ GE297.out) | exact HB.out))); rintro e w51 ⟨rfl, hb⟩; refine ⟨_, rfl, ?_⟩; have n0_ := Aside0.mk (Kd.S_below (by (with_reducible repeat (first | apply Kd.S_alloc | apply Kd.S_drewN | apply Kd.S_drew)); exact HO291.out) hb); have n1_ := Aside0.mk (Kd.S_below (by (with_reducible repeat (first | apply Kd.S_alloc | apply Kd.S_drewN | apply Kd.S_drew)); exact HO296.out) hb); have n2_ := Aside0.mk (Kd.R_below (by (with_reducible repeat (first | apply Kd.R_alloc | apply Kd.R_drewN | apply Kd.R_drew)); exact HL299_5.out) hb); have n3_ := Aside0.mk (Kd.R_below (by (with_reducible repeat (first | apply Kd.R_alloc | apply Kd.R_drewN | apply Kd.R_drew)); exact HL300_5.out) hb); have n4_ := Aside0.mk (Kd.R_below (by (with_reducible repeat (first | apply Kd.R_alloc | apply Kd.R_drewN | apply Kd.R_drew)); exact HL302_5.out) hb); have n5_ := Aside0.mk (blk_below (g := gb287) (o := .cells #[.slice Ao37 t289.length co37] 24 (0, 0)) (by (with_reducible repeat (first | refine blk_drewN ?_ _ | refine blk_drew ?_ | refine blk_alloc ?_ _)); exact BK287.out) hb); have n6_ := Aside0.mk (blk_below (g := gb297) (o := .cells #[.slice (some ⟨go28, 0, none⟩) t294.length co43] 24 (0, 0)) (by (with_reducible repeat (first | refine blk_drewN ?_ _ | refine blk_drew ?_ | refine blk_alloc ?_ _)); exact BK297.out) hb); have n7_ := Aside0.mk (Kd.C_below (by repeat (first | (with_reducible exact HR302_5.out) | (with_reducible refine Kd.C_alloc ?_ _) | (with_reducible refine Kd.C_drewN ?_ _) | (with_reducible refine Kd.C_drew ?_) | exact HR302_5.out)) hb); have n8_ := Aside0.mk (below_step (by repeat (first | (with_reducible first | exact HB.out | apply below_alloc | apply pw_below_drewN | apply below_drew1 | refine below_set ?_ GE287.out | refine below_set ?_ GE297.out) | exact HB.out)) hb); clear HO291; clear HO296; clear HL299_5; clear HL300_5; clear HL302_5; clear BK287; clear BK297; clear HR302_5; clear HB; have HO291 := n0_; have HO296 := n1_; have HL299_5 := n2_; have HL300_5 := n3_; have HL302_5 := n4_; have BK287 := n5_; have BK297 := n6_; have HR302_5 := n7_; have HB := n8_; clear n0_ n1_ n2_ n3_ n4_ n5_ n6_ n7_ n8_; (try clear hb); (try clear hb2); (try clear hk); (try clear hi); have hcz52_0 : w51.cell? ⟨gb287, 0, none⟩ = some (.slice Ao37 t289.length co37) := (blk_cell BK287.out 0).trans rfl; have hfz52_0 := blk_frozen BK287.out 0) | (go_at_call 24; (with_reducible refine (tree_Same.calls _ _ t289 _ _ t289 t304 _ ?side1 ?side2 ?side3 ?side4 ?side5 A32.out).mono ?_); (case side1 => repeat (first | exact (Kd.S_reads' HO291.out).2.2 | (with_reducible refine Kd.C_alloc ?_ _) | (with_reducible refine Kd.C_drewN ?_ _) | (with_reducible refine Kd.C_drew ?_))); (case side2 => exact (Kd.S_reads' HO291.out).2.1); (case side3 => repeat (first | exact (Kd.S_reads' HO291.out).2.2 | (with_reducible refine Kd.C_alloc ?_ _) | (with_reducible refine Kd.C_drewN ?_ _) | (with_reducible refine Kd.C_drew ?_))); (case side4 => exact (Kd.S_reads' HO291.out).2.1); (case side5 => exact GL_below HG.out (by repeat (first | (with_reducible first | exact HB.out | apply below_alloc | apply pw_below_drewN | apply below_drew1 | refine below_set ?_ GE287.out | refine below_set ?_ GE297.out) | exact HB.out))); rintro e w53 ⟨rfl, hb⟩; have n0_ := Aside0.mk (Kd.S_below (by (with_reducible repeat (first | apply Kd.S_alloc | apply Kd.S_drewN | apply Kd.S_drew)); exact HO291.out) hb); have n1_ := Aside0.mk (Kd.S_below (by (with_reducible repeat (first | apply Kd.S_alloc | apply Kd.S_drewN | apply Kd.S_drew)); exact HO296.out) hb); have n2_ := Aside0.mk (Kd.R_below (by (with_reducible repeat (first | apply Kd.R_alloc | apply Kd.R_drewN | apply Kd.R_drew)); exact HL299_5.out) hb); have n3_ := Aside0.mk (Kd.R_below (by (with_reducible repeat (first | apply Kd.R_alloc | apply Kd.R_drewN | apply Kd.R_drew)); exact HL300_5.out) hb); have n4_ := Aside0.mk (Kd.R_below (by (with_reducible repeat (first | apply Kd.R_alloc | apply Kd.R_drewN | apply Kd.R_drew)); exact HL302_5.out) hb); have n5_ := Aside0.mk (blk_below (g := gb287) (o := .cells #[.slice Ao37 t289.length co37] 24 (0, 0)) (by (with_reducible repeat (first | refine blk_drewN ?_ _ | refine blk_drew ?_ | refine blk_alloc ?_ _)); exact BK287.out) hb); have n6_ := Aside0.mk (blk_below (g := gb297) (o := .cells #[.slice (some ⟨go28, 0, none⟩) t294.length co43] 24 (0, 0)) (by (with_reducible repeat (first | refine blk_drewN ?_ _ | refine blk_drew ?_ | refine blk_alloc ?_ _)); exact BK297.out) hb); have n7_ := Aside0.mk (Kd.C_below (by repeat (first | (with_reducible exact HR302_5.out) | (with_reducible refine Kd.C_alloc ?_ _) | (with_reducible refine Kd.C_drewN ?_ _) | (with_reducible refine Kd.C_drew ?_) | exact HR302_5.out)) hb); have n8_ := Aside0.mk (below_step (by repeat (first | (with_reducible first | exact HB.out | apply below_alloc | apply pw_below_drewN | apply below_drew1 | refine below_set ?_ GE287.out | refine below_set ?_ GE297.out) | exact HB.out)) hb); clear HO291; clear HO296; clear HL299_5; clear HL300_5; clear HL302_5; clear BK287; clear BK297; clear HR302_5; clear HB; have HO291 := n0_; have HO296 := n1_; have HL299_5 := n2_; have HL300_5 := n3_; have HL302_5 := n4_; have BK287 := n5_; have BK297 := n6_; have HR302_5 := n7_; have HB := n8_; clear n0_ n1_ n2_ n3_ n4_ n5_ n6_ n7_ n8_; (try clear hb); (try clear hb2); (try clear hk); (try clear hi)))
        go_ret
        exact ⟨by first | rfl | (simp [errW_none, errW_some] <;> rfl) | (simp [*, errW_none, errW_some] <;> rfl), by repeat (first | (with_reducible first | exact HB.out | apply below_alloc | apply pw_below_drewN | apply below_drew1 | refine below_set ?_ GE287.out | refine below_set ?_ GE297.out) | exact HB.out)⟩
       ·
        rw [if_neg c31] at H
        have c31b0 : (t303 == 4) = false := beq_eq_false_iff_ne.mpr c31
        have c31b1 : (t303 != 4) = true := bne_iff_ne.mpr c31
        obtain rfl := Option.some.inj H
        go_enter Tryd.func5, Tryd.ntmps5
        go_wp2_with (first | ((with_reducible refine gate_dst (N := 2) rfl ?_); refine box_event ?hg (N := 2) ?hd (cs := #[.slice A0_0 l0_0.length c0_0]) (t := 24) ?hr ?_; (case hd => rfl); (case hg => rfl); (case hr => first | (go_simp; done) | (go_simp; rfl)); intro gb287 hg w54 hbox hb; have n0_ := Aside0.mk (below_step (by repeat (first | (with_reducible first | exact HB.out | apply below_alloc | apply pw_below_drewN | apply below_drew1) | exact HB.out)) hb); have n1_ := Aside0.mk (hbox); have n2_ := Aside0.mk ((by rw [hg]; exact (below_size (by repeat (first | (with_reducible first | exact HB.out | apply below_alloc | apply pw_below_drewN | apply below_drew1) | exact HB.out))) : w.heap.size ≤ gb287)); have n3_ := Aside0.mk ((by rw [hg]; exact (below_size (by repeat (first | (with_reducible first | exact HB.out | apply below_alloc | apply pw_below_drewN | apply below_drew1) | exact HB.out))) : w.heap.size ≤ gb287)); clear HB; have HB := n0_; have BK287 := n1_; have GW287 := n2_; have GE287 := n3_; clear n0_ n1_ n2_ n3_; clear hb hbox hg) | ((with_reducible refine gate_callee (f := 16) rfl ?_); refine goesL_ (some 10) rfl rfl Tryd.func16 (by kernel_rfl) rfl #[] rfl (by (try simp only [List.map_toArray, List.map_cons, List.map_nil]); first | done | rfl | (simp only [List.length_drop, List.length_take]; rfl)) ?_; (with_reducible refine (gramaryelaw22_works.calls  true _ ?side1 A3.out).mono ?_); (case side1 => exact GL_below HG.out (by repeat (first | (with_reducible first | exact HB.out | apply below_alloc | apply pw_below_drewN | apply below_drew1 | refine below_set ?_ GE287.out) | exact HB.out))); rintro e w55 ⟨rfl, hb⟩; refine ⟨_, rfl, ?_⟩; have n0_ := Aside0.mk (blk_below (g := gb287) (o := .cells #[.slice A0_0 l0_0.length c0_0] 24 (0, 0)) (by (with_reducible repeat (first | refine blk_drewN ?_ _ | refine blk_drew ?_ | refine blk_alloc ?_ _)); exact BK287.out) hb); have n1_ := Aside0.mk (below_step (by repeat (first | (with_reducible first | exact HB.out | apply below_alloc | apply pw_below_drewN | apply below_drew1 | refine below_set ?_ GE287.out) | exact HB.out)) hb); clear BK287; clear HB; have BK287 := n0_; have HB := n1_; clear n0_ n1_; (try clear hb); (try clear hb2); (try clear hk); (try clear hi); have hcz56_0 : w55.cell? ⟨gb287, 0, none⟩ = some (.slice A0_0 l0_0.length c0_0) := (blk_cell BK287.out 0).trans rfl; have hfz56_0 := blk_frozen BK287.out 0) | ((with_reducible refine gate_callee (f := 10) rfl ?_); refine goesL_ (some 13) rfl rfl Tryd.func10 (by kernel_rfl) rfl #[.agg #[.slice A0_0 l0_0.length c0_0]] rfl (by (try simp only [List.map_toArray, List.map_cons, List.map_nil]); first | done | rfl | (simp only [List.length_drop, List.length_take]; rfl)) ?_; (with_reducible refine (gramaryelaw22_Few.calls k _ _ l0_0 t289 _ ?side1 ?side2 A5.out).mono ?_); (case side1 => repeat (first | exact (Kd.C_below HR0_0.out HB.out) | (with_reducible refine Kd.C_alloc ?_ _) | (with_reducible refine Kd.C_drewN ?_ _) | (with_reducible refine Kd.C_drew ?_))); (case side2 => exact HC0_0.out); rintro e w57 ⟨v290, rfl, ho0, hb⟩; refine ⟨_, rfl, ?_⟩; have n0_ := Aside0.mk (Kd.S_lower ho0 (below_size (by repeat (first | (with_reducible first | exact HB.out | apply below_alloc | apply pw_below_drewN | apply below_drew1 | refine below_set ?_ GE287.out) | exact HB.out)))); have n1_ := Aside0.mk (blk_below (g := gb287) (o := .cells #[.slice A0_0 l0_0.length c0_0] 24 (0, 0)) (by (with_reducible repeat (first | refine blk_drewN ?_ _ | refine blk_drew ?_ | refine blk_alloc ?_ _)); exact BK287.out) hb); have n2_ := Aside0.mk (below_step (by repeat (first | (with_reducible first | exact HB.out | apply below_alloc | apply pw_below_drewN | apply below_drew1 | refine below_set ?_ GE287.out) | exact HB.out)) hb); clear BK287; clear HB; have HO291 := n0_; have BK287 := n1_; have HB := n2_; clear n0_ n1_ n2_; (try clear hb); (try clear hb2); (try clear hk); (try clear hi); (try clear ho0); obtain ⟨Ao58, co58, eo58⟩ := Kd.S_slice HO291.out; subst eo58; have hcz59_0 : w57.cell? ⟨gb287, 0, none⟩ = some (.slice A0_0 l0_0.length c0_0) := (blk_cell BK287.out 0).trans rfl; have hfz59_0 := blk_frozen BK287.out 0) | ((with_reducible refine gate_callee (f := 11) rfl ?_); refine goesL_ (some 15) rfl rfl Tryd.func11 (by kernel_rfl) rfl #[.agg #[.slice Ao58 t289.length co58]] rfl (by (try simp only [List.map_toArray, List.map_cons, List.map_nil]); first | done | rfl | (simp only [List.length_drop, List.length_take]; rfl)) ?_; (with_reducible refine (tree_May.calls _ _ t289 t292 _ ?side1 ?side2 ?side3 A6.out).mono ?_); (case side1 => refine (Kd.S_reads' (e := 33) (base := w.heap.size) (ok := fun k_ => True) (n := t289.length) (c := co58) ?_).2.2; exact (by (with_reducible repeat (first | apply Kd.S_alloc | apply Kd.S_drewN | apply Kd.S_drew)); exact (Kd.S_mono (Kd.S_far (p := ⟨gb287, 0, none⟩) (Kd.S_types HO291.out BK287.out (by decide)) (fun _ hk => hk.2) (.slice Ao58 t289.length co58)) (fun _ h_ => h_.1)))); (case side2 => exact (Kd.S_reads' HO291.out).2.1); (case side3 => exact GL_below HG.out (by repeat (first | (with_reducible first | exact HB.out | apply below_alloc | apply pw_below_drewN | apply below_drew1 | refine below_set ?_ GE287.out) | exact HB.out))); rintro e w60 ⟨rfl, hb⟩; refine ⟨_, rfl, ?_⟩; have n0_ := Aside0.mk (Kd.S_below (by (with_reducible repeat (first | apply Kd.S_alloc | apply Kd.S_drewN | apply Kd.S_drew)); exact (Kd.S_mono (Kd.S_far (p := ⟨gb287, 0, none⟩) (Kd.S_types HO291.out BK287.out (by decide)) (fun _ hk => hk.2) (.slice Ao58 t289.length co58)) (fun _ h_ => h_.1))) hb); have n1_ := Aside0.mk (blk_below (g := gb287) (o := .cells #[.slice Ao58 t289.length co58] 24 (0, 0)) (by (with_reducible repeat (first | refine blk_drewN ?_ _ | refine blk_drew ?_ | refine blk_alloc ?_ _)); refine blk_put (cs := #[.slice A0_0 l0_0.length c0_0]) ?_ 0 _ rfl; (with_reducible repeat (first | refine blk_drewN ?_ _ | refine blk_drew ?_ | refine blk_alloc ?_ _)); exact BK287.out) hb); have n2_ := Aside0.mk (below_step (by repeat (first | (with_reducible first | exact HB.out | apply below_alloc | apply pw_below_drewN | apply below_drew1 | refine below_set ?_ GE287.out) | exact HB.out)) hb); clear HO291; clear BK287; clear HB; have HO291 := n0_; have BK287 := n1_; have HB := n2_; clear n0_ n1_ n2_; (try clear hb); (try clear hb2); (try clear hk); (try clear hi); have hcz61_0 : w60.cell? ⟨gb287, 0, none⟩ = some (.slice Ao58 t289.length co58) := (blk_cell BK287.out 0).trans rfl; have hfz61_0 := blk_frozen BK287.out 0) | ((with_reducible refine gate_callee (f := 10) rfl ?_); refine goesL_ (some 22) rfl rfl Tryd.func10 (by kernel_rfl) rfl #[.agg #[.slice Ao58 t289.length co58]] rfl (by (try simp only [List.map_toArray, List.map_cons, List.map_nil]); first | done | rfl | (simp only [List.length_drop, List.length_take]; rfl)) ?_; (with_reducible refine (gramaryelaw22_Few.calls k _ _ t289 t294 _ ?side1 ?side2 A8.out).mono ?_); (case side1 => repeat (first | exact (Kd.S_reads' HO291.out).2.2 | (with_reducible refine Kd.C_alloc ?_ _) | (with_reducible refine Kd.C_drewN ?_ _) | (with_reducible refine Kd.C_drew ?_))); (case side2 => exact (Kd.S_reads' HO291.out).2.1); rintro e w62 ⟨v295, rfl, ho0, hb⟩; refine ⟨_, rfl, ?_⟩; have n0_ := Aside0.mk (Kd.S_elder' (by (with_reducible repeat (first | apply Kd.S_alloc | apply Kd.S_drewN | apply Kd.S_drew)); exact HO291.out) (Kd.S_base ho0) hb); have n1_ := Aside0.mk (Kd.S_lower (Kd.S_new' ho0 (Kd.S_lt (by (with_reducible repeat (first | apply Kd.S_alloc | apply Kd.S_drewN | apply Kd.S_drew)); exact HO291.out))) (below_size (by repeat (first | (with_reducible first | exact HB.out | apply below_alloc | apply pw_below_drewN | apply below_drew1 | refine below_set ?_ GE287.out) | exact HB.out)))); have n2_ := Aside0.mk (blk_below (g := gb287) (o := .cells #[.slice Ao58 t289.length co58] 24 (0, 0)) (by (with_reducible repeat (first | refine blk_drewN ?_ _ | refine blk_drew ?_ | refine blk_alloc ?_ _)); exact BK287.out) hb); have n3_ := Aside0.mk (below_step (by repeat (first | (with_reducible first | exact HB.out | apply below_alloc | apply pw_below_drewN | apply below_drew1 | refine below_set ?_ GE287.out) | exact HB.out)) hb); clear HO291; clear BK287; clear HB; have HO291 := n0_; have HO296 := n1_; have BK287 := n2_; have HB := n3_; clear n0_ n1_ n2_ n3_; (try clear hb); (try clear hb2); (try clear hk); (try clear hi); (try clear ho0)) | ((with_reducible refine gate_dst (N := 5) rfl ?_); refine box_event ?hg (N := 5) ?hd (cs := #[.slice none 0 0]) (t := 24) ?hr ?_; (case hd => rfl); (case hg => rfl); (case hr => first | (go_simp; done) | (go_simp; rfl)); intro gb297 hg w63 hbox hb; have n0_ := Aside0.mk (Kd.S_below (by (with_reducible repeat (first | apply Kd.S_alloc | apply Kd.S_drewN | apply Kd.S_drew)); exact HO291.out) hb); have n1_ := Aside0.mk (Kd.S_below (by (with_reducible repeat (first | apply Kd.S_alloc | apply Kd.S_drewN | apply Kd.S_drew)); exact HO296.out) hb); have n2_ := Aside0.mk (blk_below (g := gb287) (o := .cells #[.slice Ao58 t289.length co58] 24 (0, 0)) (by (with_reducible repeat (first | refine blk_drewN ?_ _ | refine blk_drew ?_ | refine blk_alloc ?_ _)); exact BK287.out) hb); have n3_ := Aside0.mk (below_step (by repeat (first | (with_reducible first | exact HB.out | apply below_alloc | apply pw_below_drewN | apply below_drew1 | refine below_set ?_ GE287.out) | exact HB.out)) hb); have n4_ := Aside0.mk (hbox); have n5_ := Aside0.mk ((by rw [hg]; exact (below_size (by repeat (first | (with_reducible first | exact HB.out | apply below_alloc | apply pw_below_drewN | apply below_drew1 | refine below_set ?_ GE287.out) | exact HB.out))) : w.heap.size ≤ gb297)); have n6_ := Aside0.mk ((by rw [hg]; exact (below_size (by repeat (first | (with_reducible first | exact HB.out | apply below_alloc | apply pw_below_drewN | apply below_drew1 | refine below_set ?_ GE287.out) | exact HB.out))) : w.heap.size ≤ gb297)); have n7_ := Aside0.mk ((by rw [hg]; exact Nat.ne_of_lt (blk_lt (g := gb287) (o := .cells #[.slice Ao58 t289.length co58] 24 (0, 0)) (by (with_reducible repeat (first | refine blk_drewN ?_ _ | refine blk_drew ?_ | refine blk_alloc ?_ _)); exact BK287.out)) : gb287 ≠ gb297)); have n8_ := Aside0.mk ((by rw [hg]; exact Nat.ne_of_gt (blk_lt (g := gb287) (o := .cells #[.slice Ao58 t289.length co58] 24 (0, 0)) (by (with_reducible repeat (first | refine blk_drewN ?_ _ | refine blk_drew ?_ | refine blk_alloc ?_ _)); exact BK287.out)) : gb297 ≠ gb287)); clear HO291; clear HO296; clear BK287; clear HB; have HO291 := n0_; have HO296 := n1_; have BK287 := n2_; have HB := n3_; have BK297 := n4_; have GW297 := n5_; have GE297 := n6_; have NB287_297 := n7_; have NB297_287 := n8_; clear n0_ n1_ n2_ n3_ n4_ n5_ n6_ n7_ n8_; clear hb hbox hg; obtain ⟨Ao64, co64, eo64⟩ := Kd.S_slice HO296.out; subst eo64; have hnb65 := NB297_287.out; have hnc65 := NB287_297.out; have hcz66_0 : w63.cell? ⟨gb297, 0, none⟩ = some (.slice none 0 0) := (blk_cell BK297.out 0).trans rfl; have hfz66_0 := blk_frozen BK297.out 0) | ((with_reducible refine gate_store (t := 24) (p := 5) rfl ?_); refine store_event (t := 24) (p := 5) (v := ?vo_w67) (w1 := (w63.setCell ⟨gb297, 0, none⟩ (.slice Ao64 t294.length co64))) ?hg ?ho ?hn ?hr ?_; (case ho => rfl); (case hg => rfl); (case hn => rfl); (case hr => first | (go_simp; done) | (go_simp; rfl)); intro w67 hw; have n0_ : Aside0 (Kd.S k33 33 w67 w.heap.size (fun k_ => some k_ ≠ (.slice Ao64 t294.length co64 : Value).ownBlock) (.slice Ao58 t289.length co58) t289) := ⟨(by rw [hw]; exact (by (with_reducible repeat (first | apply Kd.S_alloc | apply Kd.S_drewN | apply Kd.S_drew)); exact Kd.S_mono (Kd.S_far (p := ⟨gb297, 0, none⟩) (Kd.S_types HO291.out BK297.out (by decide)) (fun _ hk => hk.2) (.slice Ao64 t294.length co64)) (fun _ hk => hk.1.2)))⟩; have n1_ : Aside0 (Kd.S k33 33 w67 w.heap.size (fun k_ => some k_ ≠ (.slice Ao58 t289.length co58 : Value).ownBlock) (.slice Ao64 t294.length co64) t294) := ⟨(by rw [hw]; exact (by (with_reducible repeat (first | apply Kd.S_alloc | apply Kd.S_drewN | apply Kd.S_drew)); exact Kd.S_mono (Kd.S_far (p := ⟨gb297, 0, none⟩) (Kd.S_types HO296.out BK297.out (by decide)) (fun _ hk => hk.2) (.slice Ao64 t294.length co64)) (fun _ hk => hk.1.2)))⟩; have n2_ : Aside0 (w67.heap[gb287]? = some (.cells #[.slice Ao58 t289.length co58] 24 (0, 0))) := ⟨(by rw [hw]; exact (by (with_reducible repeat (first | refine blk_drewN ?_ _ | refine blk_drew ?_ | refine blk_alloc ?_ _)); refine blk_far ?_ NB287_297.out _; (with_reducible repeat (first | refine blk_drewN ?_ _ | refine blk_drew ?_ | refine blk_alloc ?_ _)); exact BK287.out))⟩; have n3_ : Aside0 (w67.heap[gb297]? = some (.cells #[.slice Ao64 t294.length co64] 24 (0, 0))) := ⟨(by rw [hw]; exact (by (with_reducible repeat (first | refine blk_drewN ?_ _ | refine blk_drew ?_ | refine blk_alloc ?_ _)); refine blk_put (cs := #[.slice none 0 0]) ?_ 0 _ rfl; (with_reducible repeat (first | refine blk_drewN ?_ _ | refine blk_drew ?_ | refine blk_alloc ?_ _)); exact BK297.out))⟩; have n4_ : Aside0 (Below w.heap.size w w67) := ⟨(by rw [hw]; exact (by repeat (first | (with_reducible first | exact HB.out | apply below_alloc | apply pw_below_drewN | apply below_drew1 | refine below_set ?_ GE287.out | refine below_set ?_ GE297.out) | exact HB.out)))⟩; clear hw; clear HO291; clear HO296; clear BK287; clear BK297; clear HB; have HO291 := n0_; have HO296 := n1_; have BK287 := n2_; have BK297 := n3_; have HB := n4_; clear n0_ n1_ n2_ n3_ n4_; have hcz68_0 : w67.cell? ⟨gb297, 0, none⟩ = some (.slice Ao64 t294.length co64) := (blk_cell BK297.out 0).trans rfl; have hfz68_0 := blk_frozen BK297.out 0) | ((with_reducible refine gate_callee (f := 25) rfl ?_); refine goesL_ (some 27) rfl rfl Tryd.func25 (by kernel_rfl) rfl #[.int .i64 a1, .int .i64 (t294.length : Int)] rfl (by (try simp only [List.map_toArray, List.map_cons, List.map_nil]); first | done | rfl | (simp only [List.length_drop, List.length_take]; rfl)) ?_; (with_reducible refine (gramaryebase_Among.calls a1 (t294.length : Int) t298 _ A9.out).mono ?_); rintro e w' ⟨rfl, ⟨nd, rfl⟩⟩; refine ⟨_, rfl, ?_⟩; (try (rw [drewN_self w67]; generalize hq_ : World.drewN w67 _ = w67; have n0_ : Aside0 (Kd.S k33 33 w67 w.heap.size (fun k_ => some k_ ≠ (.slice Ao64 t294.length co64 : Value).ownBlock) (.slice Ao58 t289.length co58) t289) := ⟨by rw [← hq_]; exact (by (with_reducible repeat (first | apply Kd.S_alloc | apply Kd.S_drewN | apply Kd.S_drew)); exact HO291.out)⟩; have n1_ : Aside0 (Kd.S k33 33 w67 w.heap.size (fun k_ => some k_ ≠ (.slice Ao58 t289.length co58 : Value).ownBlock) (.slice Ao64 t294.length co64) t294) := ⟨by rw [← hq_]; exact (by (with_reducible repeat (first | apply Kd.S_alloc | apply Kd.S_drewN | apply Kd.S_drew)); exact HO296.out)⟩; have n2_ : Aside0 (w67.heap[gb287]? = some (.cells #[.slice Ao58 t289.length co58] 24 (0, 0))) := ⟨by rw [← hq_]; exact (by (with_reducible repeat (first | refine blk_drewN ?_ _ | refine blk_drew ?_ | refine blk_alloc ?_ _)); exact BK287.out)⟩; have n3_ : Aside0 (w67.heap[gb297]? = some (.cells #[.slice Ao64 t294.length co64] 24 (0, 0))) := ⟨by rw [← hq_]; exact (by (with_reducible repeat (first | refine blk_drewN ?_ _ | refine blk_drew ?_ | refine blk_alloc ?_ _)); exact BK297.out)⟩; have n4_ : Aside0 (Below w.heap.size w w67) := ⟨by rw [← hq_]; exact (by repeat (first | (with_reducible first | exact HB.out | apply below_alloc | apply pw_below_drewN | apply below_drew1 | refine below_set ?_ GE287.out | refine below_set ?_ GE297.out) | exact HB.out))⟩; clear HO291 HO296 BK287 BK297 HB hq_; have HO291 := n0_; have HO296 := n1_; have BK287 := n2_; have BK297 := n3_; have HB := n4_; clear n0_ n1_ n2_ n3_ n4_; (try (have hczq287_0 := blk_cell BK287.out 0; simp only [List.getElem?_toArray, List.getElem?_cons_zero] at hczq287_0; have hfzq287_0 := blk_frozen BK287.out 0)); (try (have hczq297_0 := blk_cell BK297.out 0; simp only [List.getElem?_toArray, List.getElem?_cons_zero] at hczq297_0; have hfzq297_0 := blk_frozen BK297.out 0)))); have p299 : 0 ≤ (t298 : Int) := of_decide_eq_true (by first | (with_reducible assumption) | assumption); have q299 : t298 < (t294.length : Int) := of_decide_eq_true (by first | (with_reducible assumption) | assumption); obtain ⟨ad299, A299_5, c299_5, e299, hx299_0, hx299_1, hx299_2, hx299_3, hx299_4, hx299_5, hl299_5, hi299_5⟩ := at_T33 (Kd.S_reads' HO296.out).2.2 t298 p299 q299; cases e299; obtain ⟨ce299, hce299, hMe299, hcc299⟩ := Kd.S_get HO296.out z33 t298 p299 (by first | exact q299 | exact of_decide_eq_true (by first | (with_reducible assumption) | assumption) | (have e_ := (Kd.S_reads' HO296.out).1; omega)); obtain ⟨ve299_5, rfl, ge299_5⟩ := k33_openM hMe299; have hv299_5 := hcc299 5 _ rfl; rw [add_field _ _ 5 (by omega)] at hv299_5; replace hv299_5 := Option.some.inj (hv299_5.symm.trans hx299_5); rw [hv299_5] at ge299_5; have HL299_5 := Aside0.mk (show Kd.R (Kd.int .i64) 3 _ _ _ _ ((rd_T33 t294 t298).f5) from ge299_5); clear hv299_5 ge299_5; clear hcc299 hce299; have HR299_5 := Aside0.mk hi299_5; have HC299_5 := Aside0.mk hl299_5; clear hi299_5 hl299_5; replace p299 := eq_true p299; replace q299 := eq_true q299; have p300 : 0 ≤ (t298 : Int) := of_decide_eq_true (by first | (with_reducible assumption) | assumption); have q300 : t298 < (t294.length : Int) := of_decide_eq_true (by first | (with_reducible assumption) | assumption); obtain ⟨ad300, A300_5, c300_5, e300, hx300_0, hx300_1, hx300_2, hx300_3, hx300_4, hx300_5, hl300_5, hi300_5⟩ := at_T33 (Kd.S_reads' HO296.out).2.2 t298 p300 q300; obtain rfl : ad299 = ad300 := (by injection e300); obtain ⟨ce300, hce300, hMe300, hcc300⟩ := Kd.S_get HO296.out z33 t298 p300 (by first | exact q300 | exact of_decide_eq_true (by first | (with_reducible assumption) | assumption) | (have e_ := (Kd.S_reads' HO296.out).1; omega)); obtain ⟨ve300_5, rfl, ge300_5⟩ := k33_openM hMe300; have hv300_5 := hcc300 5 _ rfl; rw [add_field _ _ 5 (by omega)] at hv300_5; replace hv300_5 := Option.some.inj (hv300_5.symm.trans hx300_5); rw [hv300_5] at ge300_5; have HL300_5 := Aside0.mk (show Kd.R (Kd.int .i64) 3 _ _ _ _ ((rd_T33 t294 t298).f5) from ge300_5); clear hv300_5 ge300_5; clear hcc300 hce300; have HR300_5 := Aside0.mk hi300_5; have HC300_5 := Aside0.mk hl300_5; clear hi300_5 hl300_5; replace p300 := eq_true p300; replace q300 := eq_true q300; have ea_ := Option.some.inj (hx299_5.symm.trans hx300_5); injection ea_ with ea_ en_ ec_; subst ea_; subst ec_; clear en_; have p28 : 0 ≤ (t298 : Int) := of_decide_eq_true (by first | (with_reducible assumption) | assumption); have q28 : (t298 : Int) < ((t294.length : Int) : Int) := of_decide_eq_true (by first | (with_reducible assumption) | assumption); obtain ⟨go28, co28, eo28, gb28, gl28, cl28, HG28⟩ := Kd.S_form HO296.out (by omega); (first | cases eo28 | (injection eo28 with ea_ en_ ec_; (first | subst ea_ | (injection ea_ with ea_; subst ea_)); subst ec_; clear en_)); have GB28 := Aside0.mk gb28; have GG28 := Aside0.mk HG28; clear gb28 gl28 HG28; (first | simp only [add_plain] at hx299_0 | skip); (first | simp only [add_plain] at hx299_1 | skip); (first | simp only [add_plain] at hx299_2 | skip); (first | simp only [add_plain] at hx299_3 | skip); (first | simp only [add_plain] at hx299_4 | skip); (first | simp only [add_plain] at hx299_5 | skip); (first | simp only [add_plain] at hx300_0 | skip); (first | simp only [add_plain] at hx300_1 | skip); (first | simp only [add_plain] at hx300_2 | skip); (first | simp only [add_plain] at hx300_3 | skip); (first | simp only [add_plain] at hx300_4 | skip); (first | simp only [add_plain] at hx300_5 | skip); obtain ⟨_, ce28, hcl28, hM28, hcc28, hfr28, _, _⟩ := Kd.S_elem HO296.out z33 (t298 : Int) p28 q28; obtain ⟨ve28_5, rfl, ge28_5⟩ := k33_openM hM28; have hx28_0 : w67.cell? ⟨go28, (t298 : Int).toNat * 6, none⟩ = some (.int .i64 ((rd_T33 t294 t298).f0)) := hcc28 0 _ rfl; have hx28_1 : w67.cell? ⟨go28, (t298 : Int).toNat * 6 + 1, none⟩ = some (.int .i64 ((rd_T33 t294 t298).f1)) := hcc28 1 _ rfl; have hx28_2 : w67.cell? ⟨go28, (t298 : Int).toNat * 6 + 2, none⟩ = some (.int .i64 ((rd_T33 t294 t298).f2)) := hcc28 2 _ rfl; have hx28_3 : w67.cell? ⟨go28, (t298 : Int).toNat * 6 + 3, none⟩ = some (.int .i64 ((rd_T33 t294 t298).f3)) := hcc28 3 _ rfl; have hx28_4 : w67.cell? ⟨go28, (t298 : Int).toNat * 6 + 4, none⟩ = some (.string ((rd_T33 t294 t298).f4)) := hcc28 4 _ rfl; have hx28_5 : w67.cell? ⟨go28, (t298 : Int).toNat * 6 + 5, none⟩ = some (ve28_5) := hcc28 5 _ rfl; have hf28_0 : w67.frozen? ⟨go28, (t298 : Int).toNat * 6, none⟩ = false := hfr28 0; have hf28_1 : w67.frozen? ⟨go28, (t298 : Int).toNat * 6 + 1, none⟩ = false := hfr28 1; have hf28_2 : w67.frozen? ⟨go28, (t298 : Int).toNat * 6 + 2, none⟩ = false := hfr28 2; have hf28_3 : w67.frozen? ⟨go28, (t298 : Int).toNat * 6 + 3, none⟩ = false := hfr28 3; have hf28_4 : w67.frozen? ⟨go28, (t298 : Int).toNat * 6 + 4, none⟩ = false := hfr28 4; have hf28_5 : w67.frozen? ⟨go28, (t298 : Int).toNat * 6 + 5, none⟩ = false := hfr28 5; clear hcl28 hcc28 hfr28 hM28; replace p28 := eq_true p28; replace q28 := eq_true q28; have HX69 := Aside0.mk (show Kd.S k33 33 w67 w.heap.size (fun k_ => ((fun k_ => some k_ ≠ (.slice Ao58 t289.length co58 : Value).ownBlock)) k_ ∧ ¬ ((fun _ => False)) k_) (.slice (some ⟨go28, 0, none⟩) t294.length co64) t294 from (by (with_reducible repeat (first | apply Kd.S_alloc | apply Kd.S_drewN | apply Kd.S_drew)); exact Kd.S_mono HO296.out (fun k_ hk => ⟨hk, fun e_ => e_⟩))); obtain ⟨oki69, ce69, hcl69, hM69, hcc69, hfr69, hoki69, hH69⟩ := Kd.S_elem HX69.out z33 (t298 : Int) (of_decide_eq_true (by first | (with_reducible assumption) | assumption)) (by have h_ : (t298 : Int) < ((t294.length : Int) : Int) := of_decide_eq_true (by first | (with_reducible assumption) | assumption); first | exact h_ | (have e_ := (Kd.S_reads' HO296.out).1; omega) | simpa using h_); obtain ⟨ve69_5, rfl, ge69_5⟩ := k33_openM hM69; have HP69 := Kd.S_seg hH69 (of_decide_eq_true (by first | (with_reducible assumption) | assumption)) (by have h_ : (t298 : Int) < ((t294.length : Int) : Int) := of_decide_eq_true (by first | (with_reducible assumption) | assumption); first | exact h_ | (have e_ := (Kd.S_reads' HO296.out).1; omega) | simpa using h_) (seg := [.int .i64 (wrap64 (((rd_T33 t294 t298).f1) + 1))]) (j := 1) (show 2 ≤ 6 from by decide) (x' := (⟨(rd_T33 t294 t298).f0, wrap64 (((rd_T33 t294 t298).f1) + 1), (rd_T33 t294 t298).f2, (rd_T33 t294 t298).f3, (rd_T33 t294 t298).f4, (rd_T33 t294 t298).f5⟩ : S33)) (k33_mkM _ _ _ (⟨(rd_T33 t294 t298).f0, wrap64 (((rd_T33 t294 t298).f1) + 1), (rd_T33 t294 t298).f2, (rd_T33 t294 t298).f3, (rd_T33 t294 t298).f4, (rd_T33 t294 t298).f5⟩ : S33) (Kd.R_mono ge69_5 (fun _ h_ => Or.inl h_))) (fun _ hk => hk) (fun k_ hk_ => hk_.elim); have hx69_1 := hcc69 1 _ rfl; (try simp only [show (k33).sz = 6 from rfl, Nat.mul_one, Nat.add_zero] at hx69_1); have hf69_1 := hfr69 1; (try simp only [show (k33).sz = 6 from rfl, Nat.mul_one, Nat.add_zero] at hf69_1); clear hcl69 hcc69 hfr69 hM69 hoki69 hH69) | ((with_reducible refine gate_store (t := 3) (p := 43) rfl ?_); refine store_event (t := 3) (p := 43) (v := ?vo_w70) (w1 := (w67.setCell ⟨go28, (t298 : Int).toNat * 6 + 1, none⟩ (.int .i64 (wrap64 (((rd_T33 t294 t298).f1) + 1))))) ?hg ?ho ?hn ?hr ?_; (case ho => rfl); (case hg => rfl); (case hn => rfl); (case hr => first | (go_simp; done) | (go_simp; rfl)); intro w70 hw; have hg : w67.grownBy w70 (some go28) := (by rw [hw]; exact HP69.2); have hp_ : Kd.S k33 33 w70 w.heap.size (fun k_ => some k_ ≠ (.slice Ao58 t289.length co58 : Value).ownBlock) (.slice (some ⟨go28, 0, none⟩) t294.length co64) y301 := (by rw [hw, Ny301.out]; exact HP69.1); clear HP69; have n0_ := Aside0.mk (blk_grown (g := gb287) (o := .cells #[.slice Ao58 t289.length co58] 24 (0, 0)) (by (with_reducible repeat (first | refine blk_drewN ?_ _ | refine blk_drew ?_ | refine blk_alloc ?_ _)); exact BK287.out) hg (Kd.S_ne HO296.out BK287.out (by decide))); have n1_ := Aside0.mk (Kd.S_after (v := (.slice (some ⟨go28, 0, none⟩) t294.length co64)) (v1 := (.slice (some ⟨go28, 0, none⟩) t294.length co64)) (ok := (fun _ => True)) (by (with_reducible repeat (first | apply Kd.S_alloc | apply Kd.S_drewN | apply Kd.S_drew)); exact Kd.S_mono HO291.out (fun _ hk => ⟨trivial, hk⟩)) hg (.inl rfl)); have n2_ := Aside0.mk (hp_); have n3_ := Aside0.mk (blk_grown (g := gb297) (o := .cells #[.slice (some ⟨go28, 0, none⟩) t294.length co64] 24 (0, 0)) (by (with_reducible repeat (first | refine blk_drewN ?_ _ | refine blk_drew ?_ | refine blk_alloc ?_ _)); exact BK297.out) hg (Kd.S_ne HO296.out BK297.out (by decide))); have n4_ := Aside0.mk (Kd.R_after (v := (.slice (some ⟨go28, 0, none⟩) t294.length co64)) (v1 := (.slice (some ⟨go28, 0, none⟩) t294.length co64)) (ok := (fun k_ => some k_ ≠ (.slice Ao58 t289.length co58 : Value).ownBlock)) (by (with_reducible repeat (first | apply Kd.R_alloc | apply Kd.R_drewN | apply Kd.R_drew)); exact HL299_5.out) hg (.inl rfl)); have n5_ := Aside0.mk (Kd.R_after (v := (.slice (some ⟨go28, 0, none⟩) t294.length co64)) (v1 := (.slice (some ⟨go28, 0, none⟩) t294.length co64)) (ok := (fun k_ => some k_ ≠ (.slice Ao58 t289.length co58 : Value).ownBlock)) (by (with_reducible repeat (first | apply Kd.R_alloc | apply Kd.R_drewN | apply Kd.R_drew)); exact HL300_5.out) hg (.inl rfl)); have n6_ := Aside0.mk ((by rw [hw]; exact below_set (HB.out) GB28.out : Below w.heap.size w w70)); clear BK287; clear HO291; clear HO296; clear BK297; clear HL299_5; clear HL300_5; clear HB; have BK287 := n0_; have HO291 := n1_; have HO296 := n2_; have BK297 := n3_; have HL299_5 := n4_; have HL300_5 := n5_; have HB := n6_; clear n0_ n1_ n2_ n3_ n4_ n5_ n6_; clear hg hw hp_; have hcz71_0 : w70.cell? ⟨gb297, 0, none⟩ = some (.slice (some ⟨go28, 0, none⟩) t294.length co64) := (blk_cell BK297.out 0).trans rfl; have hfz71_0 := blk_frozen BK297.out 0; have p302 : 0 ≤ (t298 : Int) := of_decide_eq_true (by first | (with_reducible assumption) | assumption); have q302 : t298 < (y301.length : Int) := (by have h_ : (t298 : Int) < ((t294.length : Int) : Int) := of_decide_eq_true (by first | (with_reducible assumption) | assumption); first | (have e_ := (Kd.S_reads' HO296.out).1; omega) | simpa only [Ny301.out, List.length_set] using h_); have ql302 : ((t298 : Int) < ((t294.length : Int) : Int)) = True := eq_true (of_decide_eq_true (by first | (with_reducible assumption) | assumption)); obtain ⟨ad302, A302_5, c302_5, e302, hx302_0, hx302_1, hx302_2, hx302_3, hx302_4, hx302_5, hl302_5, hi302_5⟩ := at_T33 (Kd.S_reads' HO296.out).2.2 t298 p302 q302; obtain rfl : (⟨go28, 0, none⟩ : Addr) = ad302 := (by injection e302); obtain ⟨ce302, hce302, hMe302, hcc302⟩ := Kd.S_get HO296.out z33 t298 p302 (by first | exact q302 | exact of_decide_eq_true (by first | (with_reducible assumption) | assumption) | (have e_ := (Kd.S_reads' HO296.out).1; omega)); obtain ⟨ve302_5, rfl, ge302_5⟩ := k33_openM hMe302; have hv302_5 := hcc302 5 _ rfl; rw [add_field _ _ 5 (by omega)] at hv302_5; replace hv302_5 := Option.some.inj (hv302_5.symm.trans hx302_5); rw [hv302_5] at ge302_5; have HL302_5 := Aside0.mk (show Kd.R (Kd.int .i64) 3 _ _ _ _ ((rd_T33 y301 t298).f5) from ge302_5); clear hv302_5 ge302_5; clear hcc302 hce302; (first | simp only [add_plain] at hx302_0 | simp only [add_at] at hx302_0 | simp only [Addr.add, Nat.zero_add] at hx302_0 | skip); (first | simp only [add_plain] at hx302_1 | simp only [add_at] at hx302_1 | simp only [Addr.add, Nat.zero_add] at hx302_1 | skip); (first | simp only [add_plain] at hx302_2 | simp only [add_at] at hx302_2 | simp only [Addr.add, Nat.zero_add] at hx302_2 | skip); (first | simp only [add_plain] at hx302_3 | simp only [add_at] at hx302_3 | simp only [Addr.add, Nat.zero_add] at hx302_3 | skip); (first | simp only [add_plain] at hx302_4 | simp only [add_at] at hx302_4 | simp only [Addr.add, Nat.zero_add] at hx302_4 | skip); (first | simp only [add_plain] at hx302_5 | simp only [add_at] at hx302_5 | simp only [Addr.add, Nat.zero_add] at hx302_5 | skip); have HR302_5 := Aside0.mk hi302_5; have HC302_5 := Aside0.mk hl302_5; clear hi302_5 hl302_5; replace p302 := eq_true p302; replace q302 := eq_true q302) | ((with_reducible refine gate_callee (f := 11) rfl ?_); refine goesL_ (some 52) rfl rfl Tryd.func11 (by kernel_rfl) rfl #[.agg #[.slice (some ⟨go28, 0, none⟩) y301.length co64]] rfl (by (try simp only [List.map_toArray, List.map_cons, List.map_nil]); first | done | (rw [show y301.length = t294.length from (Kd.S_reads' HO296.out).1.symm] <;> rfl) | rfl | (simp only [List.length_drop, List.length_take]; rfl)) ?_; (with_reducible refine (tree_May.calls _ _ y301 t303 _ ?side1 ?side2 ?side3 A30.out).mono ?_); (case side1 => repeat (first | exact (Kd.S_reads' HO296.out).2.2 | (with_reducible refine Kd.C_alloc ?_ _) | (with_reducible refine Kd.C_drewN ?_ _) | (with_reducible refine Kd.C_drew ?_))); (case side2 => rw [show y301.length = t294.length from (Kd.S_reads' HO296.out).1.symm]; exact (Kd.S_reads' HO296.out).2.1); (case side3 => exact GL_below HG.out (by repeat (first | (with_reducible first | exact HB.out | apply below_alloc | apply pw_below_drewN | apply below_drew1 | refine below_set ?_ GE287.out | refine below_set ?_ GE297.out) | exact HB.out))); rintro e w72 ⟨rfl, hb⟩; refine ⟨_, rfl, ?_⟩; have n0_ := Aside0.mk (Kd.S_below (by (with_reducible repeat (first | apply Kd.S_alloc | apply Kd.S_drewN | apply Kd.S_drew)); exact HO291.out) hb); have n1_ := Aside0.mk (Kd.S_below (by (with_reducible repeat (first | apply Kd.S_alloc | apply Kd.S_drewN | apply Kd.S_drew)); exact HO296.out) hb); have n2_ := Aside0.mk (Kd.R_below (by (with_reducible repeat (first | apply Kd.R_alloc | apply Kd.R_drewN | apply Kd.R_drew)); exact HL299_5.out) hb); have n3_ := Aside0.mk (Kd.R_below (by (with_reducible repeat (first | apply Kd.R_alloc | apply Kd.R_drewN | apply Kd.R_drew)); exact HL300_5.out) hb); have n4_ := Aside0.mk (Kd.R_below (by (with_reducible repeat (first | apply Kd.R_alloc | apply Kd.R_drewN | apply Kd.R_drew)); exact HL302_5.out) hb); have n5_ := Aside0.mk (blk_below (g := gb287) (o := .cells #[.slice Ao58 t289.length co58] 24 (0, 0)) (by (with_reducible repeat (first | refine blk_drewN ?_ _ | refine blk_drew ?_ | refine blk_alloc ?_ _)); exact BK287.out) hb); have n6_ := Aside0.mk (blk_below (g := gb297) (o := .cells #[.slice (some ⟨go28, 0, none⟩) t294.length co64] 24 (0, 0)) (by (with_reducible repeat (first | refine blk_drewN ?_ _ | refine blk_drew ?_ | refine blk_alloc ?_ _)); exact BK297.out) hb); have n7_ := Aside0.mk (Kd.C_below (by repeat (first | (with_reducible exact HR302_5.out) | (with_reducible refine Kd.C_alloc ?_ _) | (with_reducible refine Kd.C_drewN ?_ _) | (with_reducible refine Kd.C_drew ?_) | exact HR302_5.out)) hb); have n8_ := Aside0.mk (below_step (by repeat (first | (with_reducible first | exact HB.out | apply below_alloc | apply pw_below_drewN | apply below_drew1 | refine below_set ?_ GE287.out | refine below_set ?_ GE297.out) | exact HB.out)) hb); clear HO291; clear HO296; clear HL299_5; clear HL300_5; clear HL302_5; clear BK287; clear BK297; clear HR302_5; clear HB; have HO291 := n0_; have HO296 := n1_; have HL299_5 := n2_; have HL300_5 := n3_; have HL302_5 := n4_; have BK287 := n5_; have BK297 := n6_; have HR302_5 := n7_; have HB := n8_; clear n0_ n1_ n2_ n3_ n4_ n5_ n6_ n7_ n8_; (try clear hb); (try clear hb2); (try clear hk); (try clear hi)))
        go_ret
        exact ⟨by first | rfl | (simp [errW_none, errW_some] <;> rfl) | (simp [*, errW_none, errW_some] <;> rfl), by repeat (first | (with_reducible first | exact HB.out | apply below_alloc | apply pw_below_drewN | apply below_drew1 | refine below_set ?_ GE287.out | refine below_set ?_ GE297.out) | exact HB.out)⟩
      ·
       rw [if_neg c29] at H
       have c29b0 : (((rd_T33 y301 t298).f0) == 3) = false := beq_eq_false_iff_ne.mpr c29
       have c29b1 : (((rd_T33 y301 t298).f0) != 3) = true := bne_iff_ne.mpr c29
       obtain ⟨y305, hy305⟩ : ∃ y_ : List ByteArray, y_ = (([] : List ByteArray)) := ⟨_, rfl⟩
       replace H : (gramaryelaw22_TreeApart.l0 k y305 (([] : List ByteArray)) 0 t289 y301) = some r := by first | (rw [hy305]; with_reducible exact H) | (have H2_ := (Option.bind_some _ _).symm.trans H; rw [hy305]; with_reducible exact H2_) | (have H2_ := (Option.bind_some _ _).symm.trans H; with_reducible exact H2_) | with_reducible exact H | (rw [hy305]; exact H) | exact H
       have Ny305 := Aside0.mk hy305
       clear hy305
       obtain ⟨y308, hy308⟩ : ∃ y_ : List ByteArray, y_ = (([] : List ByteArray)) := ⟨_, rfl⟩
       replace H : (gramaryelaw22_TreeApart.l0 k y305 y308 0 t289 y301) = some r := by first | (rw [hy308]; with_reducible exact H) | (have H2_ := (Option.bind_some _ _).symm.trans H; rw [hy308]; with_reducible exact H2_) | (have H2_ := (Option.bind_some _ _).symm.trans H; with_reducible exact H2_) | with_reducible exact H | (rw [hy308]; exact H) | exact H
       have Ny308 := Aside0.mk hy308
       clear hy308
       have H' := Aside0.mk H
       clear H
       go_enter Tryd.func5, Tryd.ntmps5
       go_wp2_with (first | ((with_reducible refine gate_dst (N := 2) rfl ?_); refine box_event ?hg (N := 2) ?hd (cs := #[.slice A0_0 l0_0.length c0_0]) (t := 24) ?hr ?_; (case hd => rfl); (case hg => rfl); (case hr => first | (go_simp; done) | (go_simp; rfl)); intro gb287 hg w73 hbox hb; have n0_ := Aside0.mk (below_step (by repeat (first | (with_reducible first | exact HB.out | apply below_alloc | apply pw_below_drewN | apply below_drew1) | exact HB.out)) hb); have n1_ := Aside0.mk (hbox); have n2_ := Aside0.mk ((by rw [hg]; exact (below_size (by repeat (first | (with_reducible first | exact HB.out | apply below_alloc | apply pw_below_drewN | apply below_drew1) | exact HB.out))) : w.heap.size ≤ gb287)); have n3_ := Aside0.mk ((by rw [hg]; exact (below_size (by repeat (first | (with_reducible first | exact HB.out | apply below_alloc | apply pw_below_drewN | apply below_drew1) | exact HB.out))) : w.heap.size ≤ gb287)); clear HB; have HB := n0_; have BK287 := n1_; have GW287 := n2_; have GE287 := n3_; clear n0_ n1_ n2_ n3_; clear hb hbox hg) | ((with_reducible refine gate_callee (f := 16) rfl ?_); refine goesL_ (some 10) rfl rfl Tryd.func16 (by kernel_rfl) rfl #[] rfl (by (try simp only [List.map_toArray, List.map_cons, List.map_nil]); first | done | rfl | (simp only [List.length_drop, List.length_take]; rfl)) ?_; (with_reducible refine (gramaryelaw22_works.calls  true _ ?side1 A3.out).mono ?_); (case side1 => exact GL_below HG.out (by repeat (first | (with_reducible first | exact HB.out | apply below_alloc | apply pw_below_drewN | apply below_drew1 | refine below_set ?_ GE287.out) | exact HB.out))); rintro e w74 ⟨rfl, hb⟩; refine ⟨_, rfl, ?_⟩; have n0_ := Aside0.mk (blk_below (g := gb287) (o := .cells #[.slice A0_0 l0_0.length c0_0] 24 (0, 0)) (by (with_reducible repeat (first | refine blk_drewN ?_ _ | refine blk_drew ?_ | refine blk_alloc ?_ _)); exact BK287.out) hb); have n1_ := Aside0.mk (below_step (by repeat (first | (with_reducible first | exact HB.out | apply below_alloc | apply pw_below_drewN | apply below_drew1 | refine below_set ?_ GE287.out) | exact HB.out)) hb); clear BK287; clear HB; have BK287 := n0_; have HB := n1_; clear n0_ n1_; (try clear hb); (try clear hb2); (try clear hk); (try clear hi); have hcz75_0 : w74.cell? ⟨gb287, 0, none⟩ = some (.slice A0_0 l0_0.length c0_0) := (blk_cell BK287.out 0).trans rfl; have hfz75_0 := blk_frozen BK287.out 0) | ((with_reducible refine gate_callee (f := 10) rfl ?_); refine goesL_ (some 13) rfl rfl Tryd.func10 (by kernel_rfl) rfl #[.agg #[.slice A0_0 l0_0.length c0_0]] rfl (by (try simp only [List.map_toArray, List.map_cons, List.map_nil]); first | done | rfl | (simp only [List.length_drop, List.length_take]; rfl)) ?_; (with_reducible refine (gramaryelaw22_Few.calls k _ _ l0_0 t289 _ ?side1 ?side2 A5.out).mono ?_); (case side1 => repeat (first | exact (Kd.C_below HR0_0.out HB.out) | (with_reducible refine Kd.C_alloc ?_ _) | (with_reducible refine Kd.C_drewN ?_ _) | (with_reducible refine Kd.C_drew ?_))); (case side2 => exact HC0_0.out); rintro e w76 ⟨v290, rfl, ho0, hb⟩; refine ⟨_, rfl, ?_⟩; have n0_ := Aside0.mk (Kd.S_lower ho0 (below_size (by repeat (first | (with_reducible first | exact HB.out | apply below_alloc | apply pw_below_drewN | apply below_drew1 | refine below_set ?_ GE287.out) | exact HB.out)))); have n1_ := Aside0.mk (blk_below (g := gb287) (o := .cells #[.slice A0_0 l0_0.length c0_0] 24 (0, 0)) (by (with_reducible repeat (first | refine blk_drewN ?_ _ | refine blk_drew ?_ | refine blk_alloc ?_ _)); exact BK287.out) hb); have n2_ := Aside0.mk (below_step (by repeat (first | (with_reducible first | exact HB.out | apply below_alloc | apply pw_below_drewN | apply below_drew1 | refine below_set ?_ GE287.out) | exact HB.out)) hb); clear BK287; clear HB; have HO291 := n0_; have BK287 := n1_; have HB := n2_; clear n0_ n1_ n2_; (try clear hb); (try clear hb2); (try clear hk); (try clear hi); (try clear ho0); obtain ⟨Ao77, co77, eo77⟩ := Kd.S_slice HO291.out; subst eo77; have hcz78_0 : w76.cell? ⟨gb287, 0, none⟩ = some (.slice A0_0 l0_0.length c0_0) := (blk_cell BK287.out 0).trans rfl; have hfz78_0 := blk_frozen BK287.out 0) | ((with_reducible refine gate_callee (f := 11) rfl ?_); refine goesL_ (some 15) rfl rfl Tryd.func11 (by kernel_rfl) rfl #[.agg #[.slice Ao77 t289.length co77]] rfl (by (try simp only [List.map_toArray, List.map_cons, List.map_nil]); first | done | rfl | (simp only [List.length_drop, List.length_take]; rfl)) ?_; (with_reducible refine (tree_May.calls _ _ t289 t292 _ ?side1 ?side2 ?side3 A6.out).mono ?_); (case side1 => refine (Kd.S_reads' (e := 33) (base := w.heap.size) (ok := fun k_ => True) (n := t289.length) (c := co77) ?_).2.2; exact (by (with_reducible repeat (first | apply Kd.S_alloc | apply Kd.S_drewN | apply Kd.S_drew)); exact (Kd.S_mono (Kd.S_far (p := ⟨gb287, 0, none⟩) (Kd.S_types HO291.out BK287.out (by decide)) (fun _ hk => hk.2) (.slice Ao77 t289.length co77)) (fun _ h_ => h_.1)))); (case side2 => exact (Kd.S_reads' HO291.out).2.1); (case side3 => exact GL_below HG.out (by repeat (first | (with_reducible first | exact HB.out | apply below_alloc | apply pw_below_drewN | apply below_drew1 | refine below_set ?_ GE287.out) | exact HB.out))); rintro e w79 ⟨rfl, hb⟩; refine ⟨_, rfl, ?_⟩; have n0_ := Aside0.mk (Kd.S_below (by (with_reducible repeat (first | apply Kd.S_alloc | apply Kd.S_drewN | apply Kd.S_drew)); exact (Kd.S_mono (Kd.S_far (p := ⟨gb287, 0, none⟩) (Kd.S_types HO291.out BK287.out (by decide)) (fun _ hk => hk.2) (.slice Ao77 t289.length co77)) (fun _ h_ => h_.1))) hb); have n1_ := Aside0.mk (blk_below (g := gb287) (o := .cells #[.slice Ao77 t289.length co77] 24 (0, 0)) (by (with_reducible repeat (first | refine blk_drewN ?_ _ | refine blk_drew ?_ | refine blk_alloc ?_ _)); refine blk_put (cs := #[.slice A0_0 l0_0.length c0_0]) ?_ 0 _ rfl; (with_reducible repeat (first | refine blk_drewN ?_ _ | refine blk_drew ?_ | refine blk_alloc ?_ _)); exact BK287.out) hb); have n2_ := Aside0.mk (below_step (by repeat (first | (with_reducible first | exact HB.out | apply below_alloc | apply pw_below_drewN | apply below_drew1 | refine below_set ?_ GE287.out) | exact HB.out)) hb); clear HO291; clear BK287; clear HB; have HO291 := n0_; have BK287 := n1_; have HB := n2_; clear n0_ n1_ n2_; (try clear hb); (try clear hb2); (try clear hk); (try clear hi); have hcz80_0 : w79.cell? ⟨gb287, 0, none⟩ = some (.slice Ao77 t289.length co77) := (blk_cell BK287.out 0).trans rfl; have hfz80_0 := blk_frozen BK287.out 0) | ((with_reducible refine gate_callee (f := 10) rfl ?_); refine goesL_ (some 22) rfl rfl Tryd.func10 (by kernel_rfl) rfl #[.agg #[.slice Ao77 t289.length co77]] rfl (by (try simp only [List.map_toArray, List.map_cons, List.map_nil]); first | done | rfl | (simp only [List.length_drop, List.length_take]; rfl)) ?_; (with_reducible refine (gramaryelaw22_Few.calls k _ _ t289 t294 _ ?side1 ?side2 A8.out).mono ?_); (case side1 => repeat (first | exact (Kd.S_reads' HO291.out).2.2 | (with_reducible refine Kd.C_alloc ?_ _) | (with_reducible refine Kd.C_drewN ?_ _) | (with_reducible refine Kd.C_drew ?_))); (case side2 => exact (Kd.S_reads' HO291.out).2.1); rintro e w81 ⟨v295, rfl, ho0, hb⟩; refine ⟨_, rfl, ?_⟩; have n0_ := Aside0.mk (Kd.S_elder' (by (with_reducible repeat (first | apply Kd.S_alloc | apply Kd.S_drewN | apply Kd.S_drew)); exact HO291.out) (Kd.S_base ho0) hb); have n1_ := Aside0.mk (Kd.S_lower (Kd.S_new' ho0 (Kd.S_lt (by (with_reducible repeat (first | apply Kd.S_alloc | apply Kd.S_drewN | apply Kd.S_drew)); exact HO291.out))) (below_size (by repeat (first | (with_reducible first | exact HB.out | apply below_alloc | apply pw_below_drewN | apply below_drew1 | refine below_set ?_ GE287.out) | exact HB.out)))); have n2_ := Aside0.mk (blk_below (g := gb287) (o := .cells #[.slice Ao77 t289.length co77] 24 (0, 0)) (by (with_reducible repeat (first | refine blk_drewN ?_ _ | refine blk_drew ?_ | refine blk_alloc ?_ _)); exact BK287.out) hb); have n3_ := Aside0.mk (below_step (by repeat (first | (with_reducible first | exact HB.out | apply below_alloc | apply pw_below_drewN | apply below_drew1 | refine below_set ?_ GE287.out) | exact HB.out)) hb); clear HO291; clear BK287; clear HB; have HO291 := n0_; have HO296 := n1_; have BK287 := n2_; have HB := n3_; clear n0_ n1_ n2_ n3_; (try clear hb); (try clear hb2); (try clear hk); (try clear hi); (try clear ho0)) | ((with_reducible refine gate_dst (N := 5) rfl ?_); refine box_event ?hg (N := 5) ?hd (cs := #[.slice none 0 0]) (t := 24) ?hr ?_; (case hd => rfl); (case hg => rfl); (case hr => first | (go_simp; done) | (go_simp; rfl)); intro gb297 hg w82 hbox hb; have n0_ := Aside0.mk (Kd.S_below (by (with_reducible repeat (first | apply Kd.S_alloc | apply Kd.S_drewN | apply Kd.S_drew)); exact HO291.out) hb); have n1_ := Aside0.mk (Kd.S_below (by (with_reducible repeat (first | apply Kd.S_alloc | apply Kd.S_drewN | apply Kd.S_drew)); exact HO296.out) hb); have n2_ := Aside0.mk (blk_below (g := gb287) (o := .cells #[.slice Ao77 t289.length co77] 24 (0, 0)) (by (with_reducible repeat (first | refine blk_drewN ?_ _ | refine blk_drew ?_ | refine blk_alloc ?_ _)); exact BK287.out) hb); have n3_ := Aside0.mk (below_step (by repeat (first | (with_reducible first | exact HB.out | apply below_alloc | apply pw_below_drewN | apply below_drew1 | refine below_set ?_ GE287.out) | exact HB.out)) hb); have n4_ := Aside0.mk (hbox); have n5_ := Aside0.mk ((by rw [hg]; exact (below_size (by repeat (first | (with_reducible first | exact HB.out | apply below_alloc | apply pw_below_drewN | apply below_drew1 | refine below_set ?_ GE287.out) | exact HB.out))) : w.heap.size ≤ gb297)); have n6_ := Aside0.mk ((by rw [hg]; exact (below_size (by repeat (first | (with_reducible first | exact HB.out | apply below_alloc | apply pw_below_drewN | apply below_drew1 | refine below_set ?_ GE287.out) | exact HB.out))) : w.heap.size ≤ gb297)); have n7_ := Aside0.mk ((by rw [hg]; exact Nat.ne_of_lt (blk_lt (g := gb287) (o := .cells #[.slice Ao77 t289.length co77] 24 (0, 0)) (by (with_reducible repeat (first | refine blk_drewN ?_ _ | refine blk_drew ?_ | refine blk_alloc ?_ _)); exact BK287.out)) : gb287 ≠ gb297)); have n8_ := Aside0.mk ((by rw [hg]; exact Nat.ne_of_gt (blk_lt (g := gb287) (o := .cells #[.slice Ao77 t289.length co77] 24 (0, 0)) (by (with_reducible repeat (first | refine blk_drewN ?_ _ | refine blk_drew ?_ | refine blk_alloc ?_ _)); exact BK287.out)) : gb297 ≠ gb287)); clear HO291; clear HO296; clear BK287; clear HB; have HO291 := n0_; have HO296 := n1_; have BK287 := n2_; have HB := n3_; have BK297 := n4_; have GW297 := n5_; have GE297 := n6_; have NB287_297 := n7_; have NB297_287 := n8_; clear n0_ n1_ n2_ n3_ n4_ n5_ n6_ n7_ n8_; clear hb hbox hg; obtain ⟨Ao83, co83, eo83⟩ := Kd.S_slice HO296.out; subst eo83; have hnb84 := NB297_287.out; have hnc84 := NB287_297.out; have hcz85_0 : w82.cell? ⟨gb297, 0, none⟩ = some (.slice none 0 0) := (blk_cell BK297.out 0).trans rfl; have hfz85_0 := blk_frozen BK297.out 0) | ((with_reducible refine gate_store (t := 24) (p := 5) rfl ?_); refine store_event (t := 24) (p := 5) (v := ?vo_w86) (w1 := (w82.setCell ⟨gb297, 0, none⟩ (.slice Ao83 t294.length co83))) ?hg ?ho ?hn ?hr ?_; (case ho => rfl); (case hg => rfl); (case hn => rfl); (case hr => first | (go_simp; done) | (go_simp; rfl)); intro w86 hw; have n0_ : Aside0 (Kd.S k33 33 w86 w.heap.size (fun k_ => some k_ ≠ (.slice Ao83 t294.length co83 : Value).ownBlock) (.slice Ao77 t289.length co77) t289) := ⟨(by rw [hw]; exact (by (with_reducible repeat (first | apply Kd.S_alloc | apply Kd.S_drewN | apply Kd.S_drew)); exact Kd.S_mono (Kd.S_far (p := ⟨gb297, 0, none⟩) (Kd.S_types HO291.out BK297.out (by decide)) (fun _ hk => hk.2) (.slice Ao83 t294.length co83)) (fun _ hk => hk.1.2)))⟩; have n1_ : Aside0 (Kd.S k33 33 w86 w.heap.size (fun k_ => some k_ ≠ (.slice Ao77 t289.length co77 : Value).ownBlock) (.slice Ao83 t294.length co83) t294) := ⟨(by rw [hw]; exact (by (with_reducible repeat (first | apply Kd.S_alloc | apply Kd.S_drewN | apply Kd.S_drew)); exact Kd.S_mono (Kd.S_far (p := ⟨gb297, 0, none⟩) (Kd.S_types HO296.out BK297.out (by decide)) (fun _ hk => hk.2) (.slice Ao83 t294.length co83)) (fun _ hk => hk.1.2)))⟩; have n2_ : Aside0 (w86.heap[gb287]? = some (.cells #[.slice Ao77 t289.length co77] 24 (0, 0))) := ⟨(by rw [hw]; exact (by (with_reducible repeat (first | refine blk_drewN ?_ _ | refine blk_drew ?_ | refine blk_alloc ?_ _)); refine blk_far ?_ NB287_297.out _; (with_reducible repeat (first | refine blk_drewN ?_ _ | refine blk_drew ?_ | refine blk_alloc ?_ _)); exact BK287.out))⟩; have n3_ : Aside0 (w86.heap[gb297]? = some (.cells #[.slice Ao83 t294.length co83] 24 (0, 0))) := ⟨(by rw [hw]; exact (by (with_reducible repeat (first | refine blk_drewN ?_ _ | refine blk_drew ?_ | refine blk_alloc ?_ _)); refine blk_put (cs := #[.slice none 0 0]) ?_ 0 _ rfl; (with_reducible repeat (first | refine blk_drewN ?_ _ | refine blk_drew ?_ | refine blk_alloc ?_ _)); exact BK297.out))⟩; have n4_ : Aside0 (Below w.heap.size w w86) := ⟨(by rw [hw]; exact (by repeat (first | (with_reducible first | exact HB.out | apply below_alloc | apply pw_below_drewN | apply below_drew1 | refine below_set ?_ GE287.out | refine below_set ?_ GE297.out) | exact HB.out)))⟩; clear hw; clear HO291; clear HO296; clear BK287; clear BK297; clear HB; have HO291 := n0_; have HO296 := n1_; have BK287 := n2_; have BK297 := n3_; have HB := n4_; clear n0_ n1_ n2_ n3_ n4_; have hcz87_0 : w86.cell? ⟨gb297, 0, none⟩ = some (.slice Ao83 t294.length co83) := (blk_cell BK297.out 0).trans rfl; have hfz87_0 := blk_frozen BK297.out 0) | ((with_reducible refine gate_callee (f := 25) rfl ?_); refine goesL_ (some 27) rfl rfl Tryd.func25 (by kernel_rfl) rfl #[.int .i64 a1, .int .i64 (t294.length : Int)] rfl (by (try simp only [List.map_toArray, List.map_cons, List.map_nil]); first | done | rfl | (simp only [List.length_drop, List.length_take]; rfl)) ?_; (with_reducible refine (gramaryebase_Among.calls a1 (t294.length : Int) t298 _ A9.out).mono ?_); rintro e w' ⟨rfl, ⟨nd, rfl⟩⟩; refine ⟨_, rfl, ?_⟩; (try (rw [drewN_self w86]; generalize hq_ : World.drewN w86 _ = w86; have n0_ : Aside0 (Kd.S k33 33 w86 w.heap.size (fun k_ => some k_ ≠ (.slice Ao83 t294.length co83 : Value).ownBlock) (.slice Ao77 t289.length co77) t289) := ⟨by rw [← hq_]; exact (by (with_reducible repeat (first | apply Kd.S_alloc | apply Kd.S_drewN | apply Kd.S_drew)); exact HO291.out)⟩; have n1_ : Aside0 (Kd.S k33 33 w86 w.heap.size (fun k_ => some k_ ≠ (.slice Ao77 t289.length co77 : Value).ownBlock) (.slice Ao83 t294.length co83) t294) := ⟨by rw [← hq_]; exact (by (with_reducible repeat (first | apply Kd.S_alloc | apply Kd.S_drewN | apply Kd.S_drew)); exact HO296.out)⟩; have n2_ : Aside0 (w86.heap[gb287]? = some (.cells #[.slice Ao77 t289.length co77] 24 (0, 0))) := ⟨by rw [← hq_]; exact (by (with_reducible repeat (first | refine blk_drewN ?_ _ | refine blk_drew ?_ | refine blk_alloc ?_ _)); exact BK287.out)⟩; have n3_ : Aside0 (w86.heap[gb297]? = some (.cells #[.slice Ao83 t294.length co83] 24 (0, 0))) := ⟨by rw [← hq_]; exact (by (with_reducible repeat (first | refine blk_drewN ?_ _ | refine blk_drew ?_ | refine blk_alloc ?_ _)); exact BK297.out)⟩; have n4_ : Aside0 (Below w.heap.size w w86) := ⟨by rw [← hq_]; exact (by repeat (first | (with_reducible first | exact HB.out | apply below_alloc | apply pw_below_drewN | apply below_drew1 | refine below_set ?_ GE287.out | refine below_set ?_ GE297.out) | exact HB.out))⟩; clear HO291 HO296 BK287 BK297 HB hq_; have HO291 := n0_; have HO296 := n1_; have BK287 := n2_; have BK297 := n3_; have HB := n4_; clear n0_ n1_ n2_ n3_ n4_; (try (have hczq287_0 := blk_cell BK287.out 0; simp only [List.getElem?_toArray, List.getElem?_cons_zero] at hczq287_0; have hfzq287_0 := blk_frozen BK287.out 0)); (try (have hczq297_0 := blk_cell BK297.out 0; simp only [List.getElem?_toArray, List.getElem?_cons_zero] at hczq297_0; have hfzq297_0 := blk_frozen BK297.out 0)))); have p299 : 0 ≤ (t298 : Int) := of_decide_eq_true (by first | (with_reducible assumption) | assumption); have q299 : t298 < (t294.length : Int) := of_decide_eq_true (by first | (with_reducible assumption) | assumption); obtain ⟨ad299, A299_5, c299_5, e299, hx299_0, hx299_1, hx299_2, hx299_3, hx299_4, hx299_5, hl299_5, hi299_5⟩ := at_T33 (Kd.S_reads' HO296.out).2.2 t298 p299 q299; cases e299; obtain ⟨ce299, hce299, hMe299, hcc299⟩ := Kd.S_get HO296.out z33 t298 p299 (by first | exact q299 | exact of_decide_eq_true (by first | (with_reducible assumption) | assumption) | (have e_ := (Kd.S_reads' HO296.out).1; omega)); obtain ⟨ve299_5, rfl, ge299_5⟩ := k33_openM hMe299; have hv299_5 := hcc299 5 _ rfl; rw [add_field _ _ 5 (by omega)] at hv299_5; replace hv299_5 := Option.some.inj (hv299_5.symm.trans hx299_5); rw [hv299_5] at ge299_5; have HL299_5 := Aside0.mk (show Kd.R (Kd.int .i64) 3 _ _ _ _ ((rd_T33 t294 t298).f5) from ge299_5); clear hv299_5 ge299_5; clear hcc299 hce299; have HR299_5 := Aside0.mk hi299_5; have HC299_5 := Aside0.mk hl299_5; clear hi299_5 hl299_5; replace p299 := eq_true p299; replace q299 := eq_true q299; have p300 : 0 ≤ (t298 : Int) := of_decide_eq_true (by first | (with_reducible assumption) | assumption); have q300 : t298 < (t294.length : Int) := of_decide_eq_true (by first | (with_reducible assumption) | assumption); obtain ⟨ad300, A300_5, c300_5, e300, hx300_0, hx300_1, hx300_2, hx300_3, hx300_4, hx300_5, hl300_5, hi300_5⟩ := at_T33 (Kd.S_reads' HO296.out).2.2 t298 p300 q300; obtain rfl : ad299 = ad300 := (by injection e300); obtain ⟨ce300, hce300, hMe300, hcc300⟩ := Kd.S_get HO296.out z33 t298 p300 (by first | exact q300 | exact of_decide_eq_true (by first | (with_reducible assumption) | assumption) | (have e_ := (Kd.S_reads' HO296.out).1; omega)); obtain ⟨ve300_5, rfl, ge300_5⟩ := k33_openM hMe300; have hv300_5 := hcc300 5 _ rfl; rw [add_field _ _ 5 (by omega)] at hv300_5; replace hv300_5 := Option.some.inj (hv300_5.symm.trans hx300_5); rw [hv300_5] at ge300_5; have HL300_5 := Aside0.mk (show Kd.R (Kd.int .i64) 3 _ _ _ _ ((rd_T33 t294 t298).f5) from ge300_5); clear hv300_5 ge300_5; clear hcc300 hce300; have HR300_5 := Aside0.mk hi300_5; have HC300_5 := Aside0.mk hl300_5; clear hi300_5 hl300_5; replace p300 := eq_true p300; replace q300 := eq_true q300; have ea_ := Option.some.inj (hx299_5.symm.trans hx300_5); injection ea_ with ea_ en_ ec_; subst ea_; subst ec_; clear en_; have p28 : 0 ≤ (t298 : Int) := of_decide_eq_true (by first | (with_reducible assumption) | assumption); have q28 : (t298 : Int) < ((t294.length : Int) : Int) := of_decide_eq_true (by first | (with_reducible assumption) | assumption); obtain ⟨go28, co28, eo28, gb28, gl28, cl28, HG28⟩ := Kd.S_form HO296.out (by omega); (first | cases eo28 | (injection eo28 with ea_ en_ ec_; (first | subst ea_ | (injection ea_ with ea_; subst ea_)); subst ec_; clear en_)); have GB28 := Aside0.mk gb28; have GG28 := Aside0.mk HG28; clear gb28 gl28 HG28; (first | simp only [add_plain] at hx299_0 | skip); (first | simp only [add_plain] at hx299_1 | skip); (first | simp only [add_plain] at hx299_2 | skip); (first | simp only [add_plain] at hx299_3 | skip); (first | simp only [add_plain] at hx299_4 | skip); (first | simp only [add_plain] at hx299_5 | skip); (first | simp only [add_plain] at hx300_0 | skip); (first | simp only [add_plain] at hx300_1 | skip); (first | simp only [add_plain] at hx300_2 | skip); (first | simp only [add_plain] at hx300_3 | skip); (first | simp only [add_plain] at hx300_4 | skip); (first | simp only [add_plain] at hx300_5 | skip); obtain ⟨_, ce28, hcl28, hM28, hcc28, hfr28, _, _⟩ := Kd.S_elem HO296.out z33 (t298 : Int) p28 q28; obtain ⟨ve28_5, rfl, ge28_5⟩ := k33_openM hM28; have hx28_0 : w86.cell? ⟨go28, (t298 : Int).toNat * 6, none⟩ = some (.int .i64 ((rd_T33 t294 t298).f0)) := hcc28 0 _ rfl; have hx28_1 : w86.cell? ⟨go28, (t298 : Int).toNat * 6 + 1, none⟩ = some (.int .i64 ((rd_T33 t294 t298).f1)) := hcc28 1 _ rfl; have hx28_2 : w86.cell? ⟨go28, (t298 : Int).toNat * 6 + 2, none⟩ = some (.int .i64 ((rd_T33 t294 t298).f2)) := hcc28 2 _ rfl; have hx28_3 : w86.cell? ⟨go28, (t298 : Int).toNat * 6 + 3, none⟩ = some (.int .i64 ((rd_T33 t294 t298).f3)) := hcc28 3 _ rfl; have hx28_4 : w86.cell? ⟨go28, (t298 : Int).toNat * 6 + 4, none⟩ = some (.string ((rd_T33 t294 t298).f4)) := hcc28 4 _ rfl; have hx28_5 : w86.cell? ⟨go28, (t298 : Int).toNat * 6 + 5, none⟩ = some (ve28_5) := hcc28 5 _ rfl; have hf28_0 : w86.frozen? ⟨go28, (t298 : Int).toNat * 6, none⟩ = false := hfr28 0; have hf28_1 : w86.frozen? ⟨go28, (t298 : Int).toNat * 6 + 1, none⟩ = false := hfr28 1; have hf28_2 : w86.frozen? ⟨go28, (t298 : Int).toNat * 6 + 2, none⟩ = false := hfr28 2; have hf28_3 : w86.frozen? ⟨go28, (t298 : Int).toNat * 6 + 3, none⟩ = false := hfr28 3; have hf28_4 : w86.frozen? ⟨go28, (t298 : Int).toNat * 6 + 4, none⟩ = false := hfr28 4; have hf28_5 : w86.frozen? ⟨go28, (t298 : Int).toNat * 6 + 5, none⟩ = false := hfr28 5; clear hcl28 hcc28 hfr28 hM28; replace p28 := eq_true p28; replace q28 := eq_true q28; have HX88 := Aside0.mk (show Kd.S k33 33 w86 w.heap.size (fun k_ => ((fun k_ => some k_ ≠ (.slice Ao77 t289.length co77 : Value).ownBlock)) k_ ∧ ¬ ((fun _ => False)) k_) (.slice (some ⟨go28, 0, none⟩) t294.length co83) t294 from (by (with_reducible repeat (first | apply Kd.S_alloc | apply Kd.S_drewN | apply Kd.S_drew)); exact Kd.S_mono HO296.out (fun k_ hk => ⟨hk, fun e_ => e_⟩))); obtain ⟨oki88, ce88, hcl88, hM88, hcc88, hfr88, hoki88, hH88⟩ := Kd.S_elem HX88.out z33 (t298 : Int) (of_decide_eq_true (by first | (with_reducible assumption) | assumption)) (by have h_ : (t298 : Int) < ((t294.length : Int) : Int) := of_decide_eq_true (by first | (with_reducible assumption) | assumption); first | exact h_ | (have e_ := (Kd.S_reads' HO296.out).1; omega) | simpa using h_); obtain ⟨ve88_5, rfl, ge88_5⟩ := k33_openM hM88; have HP88 := Kd.S_seg hH88 (of_decide_eq_true (by first | (with_reducible assumption) | assumption)) (by have h_ : (t298 : Int) < ((t294.length : Int) : Int) := of_decide_eq_true (by first | (with_reducible assumption) | assumption); first | exact h_ | (have e_ := (Kd.S_reads' HO296.out).1; omega) | simpa using h_) (seg := [.int .i64 (wrap64 (((rd_T33 t294 t298).f1) + 1))]) (j := 1) (show 2 ≤ 6 from by decide) (x' := (⟨(rd_T33 t294 t298).f0, wrap64 (((rd_T33 t294 t298).f1) + 1), (rd_T33 t294 t298).f2, (rd_T33 t294 t298).f3, (rd_T33 t294 t298).f4, (rd_T33 t294 t298).f5⟩ : S33)) (k33_mkM _ _ _ (⟨(rd_T33 t294 t298).f0, wrap64 (((rd_T33 t294 t298).f1) + 1), (rd_T33 t294 t298).f2, (rd_T33 t294 t298).f3, (rd_T33 t294 t298).f4, (rd_T33 t294 t298).f5⟩ : S33) (Kd.R_mono ge88_5 (fun _ h_ => Or.inl h_))) (fun _ hk => hk) (fun k_ hk_ => hk_.elim); have hx88_1 := hcc88 1 _ rfl; (try simp only [show (k33).sz = 6 from rfl, Nat.mul_one, Nat.add_zero] at hx88_1); have hf88_1 := hfr88 1; (try simp only [show (k33).sz = 6 from rfl, Nat.mul_one, Nat.add_zero] at hf88_1); clear hcl88 hcc88 hfr88 hM88 hoki88 hH88) | ((with_reducible refine gate_store (t := 3) (p := 43) rfl ?_); refine store_event (t := 3) (p := 43) (v := ?vo_w89) (w1 := (w86.setCell ⟨go28, (t298 : Int).toNat * 6 + 1, none⟩ (.int .i64 (wrap64 (((rd_T33 t294 t298).f1) + 1))))) ?hg ?ho ?hn ?hr ?_; (case ho => rfl); (case hg => rfl); (case hn => rfl); (case hr => first | (go_simp; done) | (go_simp; rfl)); intro w89 hw; have hg : w86.grownBy w89 (some go28) := (by rw [hw]; exact HP88.2); have hp_ : Kd.S k33 33 w89 w.heap.size (fun k_ => some k_ ≠ (.slice Ao77 t289.length co77 : Value).ownBlock) (.slice (some ⟨go28, 0, none⟩) t294.length co83) y301 := (by rw [hw, Ny301.out]; exact HP88.1); clear HP88; have n0_ := Aside0.mk (blk_grown (g := gb287) (o := .cells #[.slice Ao77 t289.length co77] 24 (0, 0)) (by (with_reducible repeat (first | refine blk_drewN ?_ _ | refine blk_drew ?_ | refine blk_alloc ?_ _)); exact BK287.out) hg (Kd.S_ne HO296.out BK287.out (by decide))); have n1_ := Aside0.mk (Kd.S_after (v := (.slice (some ⟨go28, 0, none⟩) t294.length co83)) (v1 := (.slice (some ⟨go28, 0, none⟩) t294.length co83)) (ok := (fun _ => True)) (by (with_reducible repeat (first | apply Kd.S_alloc | apply Kd.S_drewN | apply Kd.S_drew)); exact Kd.S_mono HO291.out (fun _ hk => ⟨trivial, hk⟩)) hg (.inl rfl)); have n2_ := Aside0.mk (hp_); have n3_ := Aside0.mk (blk_grown (g := gb297) (o := .cells #[.slice (some ⟨go28, 0, none⟩) t294.length co83] 24 (0, 0)) (by (with_reducible repeat (first | refine blk_drewN ?_ _ | refine blk_drew ?_ | refine blk_alloc ?_ _)); exact BK297.out) hg (Kd.S_ne HO296.out BK297.out (by decide))); have n4_ := Aside0.mk (Kd.R_after (v := (.slice (some ⟨go28, 0, none⟩) t294.length co83)) (v1 := (.slice (some ⟨go28, 0, none⟩) t294.length co83)) (ok := (fun k_ => some k_ ≠ (.slice Ao77 t289.length co77 : Value).ownBlock)) (by (with_reducible repeat (first | apply Kd.R_alloc | apply Kd.R_drewN | apply Kd.R_drew)); exact HL299_5.out) hg (.inl rfl)); have n5_ := Aside0.mk (Kd.R_after (v := (.slice (some ⟨go28, 0, none⟩) t294.length co83)) (v1 := (.slice (some ⟨go28, 0, none⟩) t294.length co83)) (ok := (fun k_ => some k_ ≠ (.slice Ao77 t289.length co77 : Value).ownBlock)) (by (with_reducible repeat (first | apply Kd.R_alloc | apply Kd.R_drewN | apply Kd.R_drew)); exact HL300_5.out) hg (.inl rfl)); have n6_ := Aside0.mk ((by rw [hw]; exact below_set (HB.out) GB28.out : Below w.heap.size w w89)); clear BK287; clear HO291; clear HO296; clear BK297; clear HL299_5; clear HL300_5; clear HB; have BK287 := n0_; have HO291 := n1_; have HO296 := n2_; have BK297 := n3_; have HL299_5 := n4_; have HL300_5 := n5_; have HB := n6_; clear n0_ n1_ n2_ n3_ n4_ n5_ n6_; clear hg hw hp_; have hcz90_0 : w89.cell? ⟨gb297, 0, none⟩ = some (.slice (some ⟨go28, 0, none⟩) t294.length co83) := (blk_cell BK297.out 0).trans rfl; have hfz90_0 := blk_frozen BK297.out 0; have p302 : 0 ≤ (t298 : Int) := of_decide_eq_true (by first | (with_reducible assumption) | assumption); have q302 : t298 < (y301.length : Int) := (by have h_ : (t298 : Int) < ((t294.length : Int) : Int) := of_decide_eq_true (by first | (with_reducible assumption) | assumption); first | (have e_ := (Kd.S_reads' HO296.out).1; omega) | simpa only [Ny301.out, List.length_set] using h_); have ql302 : ((t298 : Int) < ((t294.length : Int) : Int)) = True := eq_true (of_decide_eq_true (by first | (with_reducible assumption) | assumption)); obtain ⟨ad302, A302_5, c302_5, e302, hx302_0, hx302_1, hx302_2, hx302_3, hx302_4, hx302_5, hl302_5, hi302_5⟩ := at_T33 (Kd.S_reads' HO296.out).2.2 t298 p302 q302; obtain rfl : (⟨go28, 0, none⟩ : Addr) = ad302 := (by injection e302); obtain ⟨ce302, hce302, hMe302, hcc302⟩ := Kd.S_get HO296.out z33 t298 p302 (by first | exact q302 | exact of_decide_eq_true (by first | (with_reducible assumption) | assumption) | (have e_ := (Kd.S_reads' HO296.out).1; omega)); obtain ⟨ve302_5, rfl, ge302_5⟩ := k33_openM hMe302; have hv302_5 := hcc302 5 _ rfl; rw [add_field _ _ 5 (by omega)] at hv302_5; replace hv302_5 := Option.some.inj (hv302_5.symm.trans hx302_5); rw [hv302_5] at ge302_5; have HL302_5 := Aside0.mk (show Kd.R (Kd.int .i64) 3 _ _ _ _ ((rd_T33 y301 t298).f5) from ge302_5); clear hv302_5 ge302_5; clear hcc302 hce302; (first | simp only [add_plain] at hx302_0 | simp only [add_at] at hx302_0 | simp only [Addr.add, Nat.zero_add] at hx302_0 | skip); (first | simp only [add_plain] at hx302_1 | simp only [add_at] at hx302_1 | simp only [Addr.add, Nat.zero_add] at hx302_1 | skip); (first | simp only [add_plain] at hx302_2 | simp only [add_at] at hx302_2 | simp only [Addr.add, Nat.zero_add] at hx302_2 | skip); (first | simp only [add_plain] at hx302_3 | simp only [add_at] at hx302_3 | simp only [Addr.add, Nat.zero_add] at hx302_3 | skip); (first | simp only [add_plain] at hx302_4 | simp only [add_at] at hx302_4 | simp only [Addr.add, Nat.zero_add] at hx302_4 | skip); (first | simp only [add_plain] at hx302_5 | simp only [add_at] at hx302_5 | simp only [Addr.add, Nat.zero_add] at hx302_5 | skip); have HR302_5 := Aside0.mk hi302_5; have HC302_5 := Aside0.mk hl302_5; clear hi302_5 hl302_5; replace p302 := eq_true p302; replace q302 := eq_true q302) | ((with_reducible refine gate_dst (N := 59) rfl ?_); refine Kd.R_lit Kd.string _ 9 ?hg (N := 59) ?hd (xs := ([] : List ByteArray)) (inner := []) (ok := fun _ => True) (okp := fun _ => True) ?hr ?hp (fun _ hk => hk) trivial (Below.refl _ _) (Nat.le_refl _) (by simp) ?_; (case hd => rfl); (case hg => rfl); (case hr => first | (go_simp; done) | (go_simp; rfl)); (case hp => exact (Reps.none _ _)); intro v306 w91 ho92 hb hg_ hnew_; clear hg_ hnew_; (first | rw [← Ny305.out] at ho92 | (simp only [Int.reduceToNat] at ho92; rw [← Ny305.out] at ho92)); have n0_ := Aside0.mk (Kd.S_below (by (with_reducible repeat (first | apply Kd.S_alloc | apply Kd.S_drewN | apply Kd.S_drew)); exact HO291.out) hb); have n1_ := Aside0.mk (Kd.S_below (by (with_reducible repeat (first | apply Kd.S_alloc | apply Kd.S_drewN | apply Kd.S_drew)); exact HO296.out) hb); have n2_ := Aside0.mk (Kd.R_below (by (with_reducible repeat (first | apply Kd.R_alloc | apply Kd.R_drewN | apply Kd.R_drew)); exact HL299_5.out) hb); have n3_ := Aside0.mk (Kd.R_below (by (with_reducible repeat (first | apply Kd.R_alloc | apply Kd.R_drewN | apply Kd.R_drew)); exact HL300_5.out) hb); have n4_ := Aside0.mk (Kd.R_below (by (with_reducible repeat (first | apply Kd.R_alloc | apply Kd.R_drewN | apply Kd.R_drew)); exact HL302_5.out) hb); have n5_ := Aside0.mk (Kd.R_lower ho92 (below_size (by repeat (first | (with_reducible first | exact HB.out | apply below_alloc | apply pw_below_drewN | apply below_drew1 | refine below_set ?_ GE287.out | refine below_set ?_ GE297.out) | exact HB.out)))); have n6_ := Aside0.mk (blk_below (g := gb287) (o := .cells #[.slice Ao77 t289.length co77] 24 (0, 0)) (by (with_reducible repeat (first | refine blk_drewN ?_ _ | refine blk_drew ?_ | refine blk_alloc ?_ _)); exact BK287.out) hb); have n7_ := Aside0.mk (blk_below (g := gb297) (o := .cells #[.slice (some ⟨go28, 0, none⟩) t294.length co83] 24 (0, 0)) (by (with_reducible repeat (first | refine blk_drewN ?_ _ | refine blk_drew ?_ | refine blk_alloc ?_ _)); exact BK297.out) hb); have n8_ := Aside0.mk (Kd.C_below (by repeat (first | (with_reducible exact HR302_5.out) | (with_reducible refine Kd.C_alloc ?_ _) | (with_reducible refine Kd.C_drewN ?_ _) | (with_reducible refine Kd.C_drew ?_) | exact HR302_5.out)) hb); have n9_ := Aside0.mk (below_step (by repeat (first | (with_reducible first | exact HB.out | apply below_alloc | apply pw_below_drewN | apply below_drew1 | refine below_set ?_ GE287.out | refine below_set ?_ GE297.out) | exact HB.out)) hb); clear HO291; clear HO296; clear HL299_5; clear HL300_5; clear HL302_5; clear BK287; clear BK297; clear HR302_5; clear HB; have HO291 := n0_; have HO296 := n1_; have HL299_5 := n2_; have HL300_5 := n3_; have HL302_5 := n4_; have HO307 := n5_; have BK287 := n6_; have BK297 := n7_; have HR302_5 := n8_; have HB := n9_; clear n0_ n1_ n2_ n3_ n4_ n5_ n6_ n7_ n8_ n9_; clear hb ho92) | ((with_reducible refine gate_dst (N := 60) rfl ?_); refine Kd.R_lit Kd.string _ 9 ?hg (N := 60) ?hd (xs := ([] : List ByteArray)) (inner := []) (ok := fun _ => True) (okp := fun _ => True) ?hr ?hp (fun _ hk => hk) trivial (Below.refl _ _) (Nat.le_refl _) (by simp) ?_; (case hd => rfl); (case hg => rfl); (case hr => first | (go_simp; done) | (go_simp; rfl)); (case hp => exact (Reps.none _ _)); intro v309 w93 ho94 hb hg_ hnew_; clear hg_ hnew_; (first | rw [← Ny308.out] at ho94 | (simp only [Int.reduceToNat] at ho94; rw [← Ny308.out] at ho94)); have n0_ := Aside0.mk (Kd.S_below (by (with_reducible repeat (first | apply Kd.S_alloc | apply Kd.S_drewN | apply Kd.S_drew)); exact HO291.out) hb); have n1_ := Aside0.mk (Kd.S_below (by (with_reducible repeat (first | apply Kd.S_alloc | apply Kd.S_drewN | apply Kd.S_drew)); exact HO296.out) hb); have n2_ := Aside0.mk (Kd.R_below (by (with_reducible repeat (first | apply Kd.R_alloc | apply Kd.R_drewN | apply Kd.R_drew)); exact HL299_5.out) hb); have n3_ := Aside0.mk (Kd.R_below (by (with_reducible repeat (first | apply Kd.R_alloc | apply Kd.R_drewN | apply Kd.R_drew)); exact HL300_5.out) hb); have n4_ := Aside0.mk (Kd.R_below (by (with_reducible repeat (first | apply Kd.R_alloc | apply Kd.R_drewN | apply Kd.R_drew)); exact HL302_5.out) hb); have n5_ := Aside0.mk (Kd.R_elder' (by (with_reducible repeat (first | apply Kd.R_alloc | apply Kd.R_drewN | apply Kd.R_drew)); exact HO307.out) (Kd.R_base ho94) hb); have n6_ := Aside0.mk (Kd.R_lower (Kd.R_new' ho94 (Kd.R_lt (by (with_reducible repeat (first | apply Kd.R_alloc | apply Kd.R_drewN | apply Kd.R_drew)); exact HO307.out))) (below_size (by repeat (first | (with_reducible first | exact HB.out | apply below_alloc | apply pw_below_drewN | apply below_drew1 | refine below_set ?_ GE287.out | refine below_set ?_ GE297.out) | exact HB.out)))); have n7_ := Aside0.mk (blk_below (g := gb287) (o := .cells #[.slice Ao77 t289.length co77] 24 (0, 0)) (by (with_reducible repeat (first | refine blk_drewN ?_ _ | refine blk_drew ?_ | refine blk_alloc ?_ _)); exact BK287.out) hb); have n8_ := Aside0.mk (blk_below (g := gb297) (o := .cells #[.slice (some ⟨go28, 0, none⟩) t294.length co83] 24 (0, 0)) (by (with_reducible repeat (first | refine blk_drewN ?_ _ | refine blk_drew ?_ | refine blk_alloc ?_ _)); exact BK297.out) hb); have n9_ := Aside0.mk (Kd.C_below (by repeat (first | (with_reducible exact HR302_5.out) | (with_reducible refine Kd.C_alloc ?_ _) | (with_reducible refine Kd.C_drewN ?_ _) | (with_reducible refine Kd.C_drew ?_) | exact HR302_5.out)) hb); have n10_ := Aside0.mk (below_step (by repeat (first | (with_reducible first | exact HB.out | apply below_alloc | apply pw_below_drewN | apply below_drew1 | refine below_set ?_ GE287.out | refine below_set ?_ GE297.out) | exact HB.out)) hb); clear HO291; clear HO296; clear HL299_5; clear HL300_5; clear HL302_5; clear HO307; clear BK287; clear BK297; clear HR302_5; clear HB; have HO291 := n0_; have HO296 := n1_; have HL299_5 := n2_; have HL300_5 := n3_; have HL302_5 := n4_; have HO307 := n5_; have HO310 := n6_; have BK287 := n7_; have BK297 := n8_; have HR302_5 := n9_; have HB := n10_; clear n0_ n1_ n2_ n3_ n4_ n5_ n6_ n7_ n8_ n9_ n10_; clear hb ho94))
       go_loopg [7, 8, 9] k (fun kq v7 v8 v9 w' => ∃ (x7_1 : List ByteArray) (x8_1 : List ByteArray) (x9_1 : Int), v9 = .int .i64 x9_1 ∧ Aside0 (gramaryelaw22_TreeApart.l0 kq x7_1 x8_1 x9_1 t289 y301 = some r) ∧ Aside0 (kq ≤ k) ∧ Aside0 (Kd.R Kd.string 9 w' w.heap.size (fun k_ => some k_ ≠ (v8 : Value).ownBlock) v7 x7_1) ∧ Aside0 (Kd.R Kd.string 9 w' w.heap.size (fun k_ => some k_ ≠ (v7 : Value).ownBlock) v8 x8_1) ∧ Aside0 (Kd.S k33 33 w' w.heap.size (fun k_ => some k_ ≠ ((.slice (some ⟨go28, 0, none⟩) t294.length co83) : Value).ownBlock) (.slice Ao77 t289.length co77) t289) ∧ Aside0 (Kd.S k33 33 w' w.heap.size (fun k_ => some k_ ≠ ((.slice Ao77 t289.length co77) : Value).ownBlock) (.slice (some ⟨go28, 0, none⟩) t294.length co83) y301) ∧ Aside0 (w'.heap[gb287]? = some (.cells #[(.slice Ao77 t289.length co77)] 24 (0, 0))) ∧ Aside0 (w'.heap[gb297]? = some (.cells #[(.slice (some ⟨go28, 0, none⟩) t294.length co83)] 24 (0, 0))) ∧ Aside0 (Below w.heap.size w w'))
       case atStart => exact ⟨(y305), (y308), (0), (by first | rfl | (simp; done) | (simp [*]; done)), H', ⟨Nat.le_refl _⟩, ⟨by (with_reducible repeat (first | apply Kd.R_alloc | apply Kd.R_drewN | apply Kd.R_drew)); exact Kd.R_mono HO307.out (fun _ hk => hk.2)⟩, ⟨by (with_reducible repeat (first | apply Kd.R_alloc | apply Kd.R_drewN | apply Kd.R_drew)); exact Kd.R_mono HO310.out (fun _ hk => hk.2)⟩, ⟨by (with_reducible repeat (first | apply Kd.S_alloc | apply Kd.S_drewN | apply Kd.S_drew)); exact Kd.S_mono HO291.out (fun _ hk => hk.2)⟩, ⟨by (with_reducible repeat (first | apply Kd.S_alloc | apply Kd.S_drewN | apply Kd.S_drew)); exact HO296.out⟩, ⟨by (with_reducible repeat (first | refine blk_drewN ?_ _ | refine blk_drew ?_ | refine blk_alloc ?_ _)); exact BK287.out⟩, ⟨by (with_reducible repeat (first | refine blk_drewN ?_ _ | refine blk_drew ?_ | refine blk_alloc ?_ _)); exact BK297.out⟩, ⟨by repeat (first | (with_reducible first | exact HB.out | apply below_alloc | apply pw_below_drewN | apply below_drew1 | refine below_set ?_ GE287.out | refine below_set ?_ GE297.out) | exact HB.out)⟩⟩
       case round =>
        clear H'
        try clear c1
        try clear c2
        try clear p2
        try clear q2
        try clear hx2
        try clear hf2
        try clear c3
        try clear p3
        try clear q3
        try clear hx3
        try clear c4
        try clear hx4
        try clear hf4
        try clear c5
        try clear c6
        try clear p6
        try clear hx6
        try clear hf6
        try clear c7
        try clear c7b0
        try clear c7b1
        try clear c8
        try clear hx8
        try clear hf8
        try clear c10
        try clear c10b0
        try clear c11
        try clear c11b0
        try clear c12
        try clear c12b0
        try clear c16
        try clear c24
        try clear c25
        try clear c28
        try clear p28
        try clear q28
        try clear hx28
        try clear hf28
        try clear c29
        try clear c29b0
        try clear c29b1
        try clear p29
        try clear q29
        try clear hx29
        try clear c30
        try clear p30
        try clear q30
        try clear hx30
        try clear c31
        try clear c31b0
        try clear c31b1
        try clear c44
        try clear c48
        try clear hx48
        try clear hf48
        try clear p64
        try clear c65
        try clear c69
        try clear hx69
        try clear hf69
        try clear c84
        try clear c88
        try clear hx88
        try clear hf88
        try clear hcz15_0
        try clear hcz18_0
        try clear hcz20_0
        try clear hcz25_0
        try clear hcz27_0
        try clear hcz35_0
        try clear hcz38_0
        try clear hcz40_0
        try clear hcz45_0
        try clear hcz47_0
        try clear hcz50_0
        try clear hcz52_0
        try clear hcz56_0
        try clear hcz59_0
        try clear hcz61_0
        try clear hcz66_0
        try clear hcz68_0
        try clear hcz71_0
        try clear hcz75_0
        try clear hcz78_0
        try clear hcz80_0
        try clear hcz85_0
        try clear hcz87_0
        try clear hcz90_0
        try clear hfz15_0
        try clear hfz18_0
        try clear hfz20_0
        try clear hfz25_0
        try clear hfz27_0
        try clear hfz35_0
        try clear hfz38_0
        try clear hfz40_0
        try clear hfz45_0
        try clear hfz47_0
        try clear hfz50_0
        try clear hfz52_0
        try clear hfz56_0
        try clear hfz59_0
        try clear hfz61_0
        try clear hfz66_0
        try clear hfz68_0
        try clear hfz71_0
        try clear hfz75_0
        try clear hfz78_0
        try clear hfz80_0
        try clear hfz85_0
        try clear hfz87_0
        try clear hfz90_0
        try clear hx28_0
        try clear hx28_1
        try clear hx28_2
        try clear hx28_3
        try clear hx28_4
        try clear hx28_5
        try clear hx299_0
        try clear hx299_1
        try clear hx299_2
        try clear hx299_3
        try clear hx299_4
        try clear hx299_5
        try clear hx300_0
        try clear hx300_1
        try clear hx300_2
        try clear hx300_3
        try clear hx300_4
        try clear hx300_5
        try clear hx302_0
        try clear hx302_1
        try clear hx302_2
        try clear hx302_3
        try clear hx302_4
        try clear hx302_5
        try clear hx48_1
        try clear hx69_1
        try clear hx88_1
        try clear p28
        try clear p299
        try clear p300
        try clear p302
        try clear q28
        try clear q299
        try clear q300
        try clear q302
        obtain ⟨x7_1, x8_1, x9_1, rfl, HA, HK1, HO_7, HO_8, HO_288000, HO_298000, BK287, BK297, HB⟩ := hrel
        have hl298000_1 := (Kd.S_reads' HO_298000.out).1
        rw [hl298000_1] at HO_298000
        (try simp only [hl298000_1])
        (try simp only [hl298000_1] at BK287)
        (try simp only [hl298000_1] at BK297)
        (try simp only [hl298000_1] at HO_7)
        (try simp only [hl298000_1] at HO_8)
        (try simp only [hl298000_1] at HO_288000)
        cases gk with
        | zero => exact absurd HA.out (by simp [gramaryelaw22_TreeApart.l0])
        | succ k1 =>
         have H := HA.out
         clear HA
         simp only [gramaryelaw22_TreeApart.l0] at H
         by_cases c95 : x9_1 < 50
         ·
          rw [if_pos c95] at H
          have c95b0 : decide (x9_1 < 50) = true := decide_eq_true c95
          clear c95
          replace H := Option.bind_eq_some_iff.mp H
          obtain ⟨t311, A960, H⟩ := H
          replace H : (if 1 + t311.size ≤ 9223372036854775807 then (if x7_1.length < 8796093022208 then ((gramaryebase_Itoa.f k1 x9_1).bind fun t315 => (if 1 + t315.size ≤ 9223372036854775807 then (if x8_1.length < 8796093022208 then (gramaryelaw22_TreeApart.l0 k1 (x7_1 ++ [(⟨#[114]⟩ : ByteArray) ++ t311]) (x8_1 ++ [(⟨#[84]⟩ : ByteArray) ++ t315]) (wrap64 (x9_1 + 1)) t289 y301) else (none)) else (none))) else (none)) else (none)) = some r := H
          have A96 := Aside0.mk A960
          clear A960
          by_cases c97 : 1 + t311.size ≤ 9223372036854775807
          ·
           rw [if_pos c97] at H
           have c97b0 := eq_true c97
           have c97b1 : decide (1 + t311.size ≤ 9223372036854775807) = true := decide_eq_true c97
           try have c97b2 : (9223372036854775807 < 1 + t311.size) = False := eq_false (Nat.not_lt.2 c97)
           by_cases c98 : x7_1.length < 8796093022208
           ·
            rw [if_pos c98] at H
            have LMc98 := Aside0.mk c98
            clear c98
            obtain ⟨y312, hy312⟩ : ∃ y_ : List ByteArray, y_ = (x7_1 ++ [(⟨#[114]⟩ : ByteArray) ++ t311]) := ⟨_, rfl⟩
            replace H : ((gramaryebase_Itoa.f k1 x9_1).bind fun t315 => (if 1 + t315.size ≤ 9223372036854775807 then (if x8_1.length < 8796093022208 then (gramaryelaw22_TreeApart.l0 k1 y312 (x8_1 ++ [(⟨#[84]⟩ : ByteArray) ++ t315]) (wrap64 (x9_1 + 1)) t289 y301) else (none)) else (none))) = some r := by first | (rw [hy312]; with_reducible exact H) | (have H2_ := (Option.bind_some _ _).symm.trans H; rw [hy312]; with_reducible exact H2_) | (have H2_ := (Option.bind_some _ _).symm.trans H; with_reducible exact H2_) | with_reducible exact H | (rw [hy312]; exact H) | exact H
            have Ny312 := Aside0.mk hy312
            clear hy312
            replace H := Option.bind_eq_some_iff.mp H
            obtain ⟨t315, A990, H⟩ := H
            replace H : (if 1 + t315.size ≤ 9223372036854775807 then (if x8_1.length < 8796093022208 then (gramaryelaw22_TreeApart.l0 k1 y312 (x8_1 ++ [(⟨#[84]⟩ : ByteArray) ++ t315]) (wrap64 (x9_1 + 1)) t289 y301) else (none)) else (none)) = some r := H
            have A99 := Aside0.mk A990
            clear A990
            by_cases c100 : 1 + t315.size ≤ 9223372036854775807
            ·
             rw [if_pos c100] at H
             have c100b0 := eq_true c100
             have c100b1 : decide (1 + t315.size ≤ 9223372036854775807) = true := decide_eq_true c100
             try have c100b2 : (9223372036854775807 < 1 + t315.size) = False := eq_false (Nat.not_lt.2 c100)
             by_cases c101 : x8_1.length < 8796093022208
             ·
              rw [if_pos c101] at H
              have LMc101 := Aside0.mk c101
              clear c101
              obtain ⟨y316, hy316⟩ : ∃ y_ : List ByteArray, y_ = (x8_1 ++ [(⟨#[84]⟩ : ByteArray) ++ t315]) := ⟨_, rfl⟩
              replace H : (gramaryelaw22_TreeApart.l0 k1 y312 y316 (wrap64 (x9_1 + 1)) t289 y301) = some r := by first | (rw [hy316]; with_reducible exact H) | (have H2_ := (Option.bind_some _ _).symm.trans H; rw [hy316]; with_reducible exact H2_) | (have H2_ := (Option.bind_some _ _).symm.trans H; with_reducible exact H2_) | with_reducible exact H | (rw [hy316]; exact H) | exact H
              have Ny316 := Aside0.mk hy316
              clear hy316
              have H' := Aside0.mk H
              clear H
              go_wp2_with (first | ((with_reducible refine gate_callee (f := 26) rfl ?_); refine goesL_ (some 67) rfl rfl Tryd.func26 (by kernel_rfl) rfl #[.int .i64 x9_1] rfl (by (try simp only [List.map_toArray, List.map_cons, List.map_nil]); first | done | rfl | (simp only [List.length_drop, List.length_take]; rfl)) ?_; (with_reducible refine (gramaryebase_Itoa.calls k1 x9_1 t311 _ A96.out).mono ?_); rintro e w102 ⟨rfl, hb⟩; refine ⟨_, rfl, ?_⟩; have n0_ := Aside0.mk (Kd.R_below (by (with_reducible repeat (first | apply Kd.R_alloc | apply Kd.R_drewN | apply Kd.R_drew)); exact HO_7.out) hb); have n1_ := Aside0.mk (Kd.R_below (by (with_reducible repeat (first | apply Kd.R_alloc | apply Kd.R_drewN | apply Kd.R_drew)); exact HO_8.out) hb); have n2_ := Aside0.mk (Kd.S_below (by (with_reducible repeat (first | apply Kd.S_alloc | apply Kd.S_drewN | apply Kd.S_drew)); exact HO_288000.out) hb); have n3_ := Aside0.mk (Kd.S_below (by (with_reducible repeat (first | apply Kd.S_alloc | apply Kd.S_drewN | apply Kd.S_drew)); exact HO_298000.out) hb); have n4_ := Aside0.mk (blk_below (g := gb287) (o := .cells #[.slice Ao77 t289.length co77] 24 (0, 0)) (by (with_reducible repeat (first | refine blk_drewN ?_ _ | refine blk_drew ?_ | refine blk_alloc ?_ _)); exact BK287.out) hb); have n5_ := Aside0.mk (blk_below (g := gb297) (o := .cells #[.slice (some ⟨go28, 0, none⟩) y301.length co83] 24 (0, 0)) (by (with_reducible repeat (first | refine blk_drewN ?_ _ | refine blk_drew ?_ | refine blk_alloc ?_ _)); exact BK297.out) hb); have n6_ := Aside0.mk (below_step (by repeat (first | (with_reducible first | exact HB.out | apply below_alloc | apply pw_below_drewN | apply below_drew1 | refine below_set ?_ GE287.out | refine below_set ?_ GE297.out) | exact HB.out)) hb); clear HO_7; clear HO_8; clear HO_288000; clear HO_298000; clear BK287; clear BK297; clear HB; have HO_7 := n0_; have HO_8 := n1_; have HO_288000 := n2_; have HO_298000 := n3_; have BK287 := n4_; have BK297 := n5_; have HB := n6_; clear n0_ n1_ n2_ n3_ n4_ n5_ n6_; (try clear hb); (try clear hb2); (try clear hk); (try clear hi)) | ((with_reducible refine gate_builtin (b := .append) (xs := #[.tmp 65, .tmp 69]) rfl ?_); at_builtin; refine Kd.R_append Kd.string (w0 := w) w.heap.size rfl (.tmp 65) (.tmp 69) 36 9 (.string ⟨#[]⟩) 16 rfl Tryd.underlying36 info9 rfl (by decide) (by omega) u7 x7_1 ((⟨#[114]⟩ : ByteArray) ++ t311) [.string ((⟨#[114]⟩ : ByteArray) ++ t311)] (fun k_ => some k_ ≠ (u8 : Value).ownBlock) (fun _ => False) rfl rfl ?aP (fun _ hk => hk.elim) ?aF ?aO ?aB ?aS ?aL ?_; (case aP => exact rfl); (case aB => exact (by repeat (first | (with_reducible first | exact HB.out | apply below_alloc | apply pw_below_drewN | apply below_drew1 | refine below_set ?_ GE287.out | refine below_set ?_ GE297.out) | exact HB.out))); (case aF => exact (fun k_ hk => Kd.fresh' (Kd.R_lt (by (with_reducible repeat (first | apply Kd.R_alloc | apply Kd.R_drewN | apply Kd.R_drew)); exact HO_8.out)) k_ hk)); (case aO => exact (by (with_reducible repeat (first | apply Kd.R_alloc | apply Kd.R_drewN | apply Kd.R_drew)); exact HO_7.out)); (case aS => exact (below_size (by repeat (first | (with_reducible first | exact HB.out | apply below_alloc | apply pw_below_drewN | apply below_drew1 | refine below_set ?_ GE287.out | refine below_set ?_ GE297.out) | exact HB.out)))); (case aL => have := LMc98.out; omega); intro v313 w103 ho hb hg hat; rw [← Ny312.out] at ho; have n0_ := Aside0.mk (Kd.R_after (ok := (fun _ => True)) (by (with_reducible repeat (first | apply Kd.R_alloc | apply Kd.R_drewN | apply Kd.R_drew)); exact Kd.R_mono HO_8.out (fun _ hk => ⟨trivial, hk⟩)) hg hat); have n1_ := Aside0.mk (Kd.S_over' (by (with_reducible repeat (first | apply Kd.S_alloc | apply Kd.S_drewN | apply Kd.S_drew)); exact HO_288000.out) (Kd.R_typed (by (with_reducible repeat (first | apply Kd.R_alloc | apply Kd.R_drewN | apply Kd.R_drew)); exact HO_7.out)) (by decide) hg); have n2_ := Aside0.mk (Kd.S_over' (by (with_reducible repeat (first | apply Kd.S_alloc | apply Kd.S_drewN | apply Kd.S_drew)); exact HO_298000.out) (Kd.R_typed (by (with_reducible repeat (first | apply Kd.R_alloc | apply Kd.R_drewN | apply Kd.R_drew)); exact HO_7.out)) (by decide) hg); have n3_ := Aside0.mk (blk_grown (g := gb287) (o := .cells #[.slice Ao77 t289.length co77] 24 (0, 0)) (by (with_reducible repeat (first | refine blk_drewN ?_ _ | refine blk_drew ?_ | refine blk_alloc ?_ _)); exact BK287.out) hg (Kd.R_ne HO_7.out BK287.out (by decide))); have n4_ := Aside0.mk (blk_grown (g := gb297) (o := .cells #[.slice (some ⟨go28, 0, none⟩) y301.length co83] 24 (0, 0)) (by (with_reducible repeat (first | refine blk_drewN ?_ _ | refine blk_drew ?_ | refine blk_alloc ?_ _)); exact BK297.out) hg (Kd.R_ne HO_7.out BK297.out (by decide))); have n5_ := Aside0.mk (hb); have n6_ := Aside0.mk (ho); clear HO_8; clear HO_288000; clear HO_298000; clear BK287; clear BK297; clear HB; clear HO_7; have HO_8 := n0_; have HO_288000 := n1_; have HO_298000 := n2_; have BK287 := n3_; have BK297 := n4_; have HB := n5_; have HO314 := n6_; clear n0_ n1_ n2_ n3_ n4_ n5_ n6_; clear ho hb hg hat) | ((with_reducible refine gate_callee (f := 26) rfl ?_); refine goesL_ (some 73) rfl rfl Tryd.func26 (by kernel_rfl) rfl #[.int .i64 x9_1] rfl (by (try simp only [List.map_toArray, List.map_cons, List.map_nil]); first | done | rfl | (simp only [List.length_drop, List.length_take]; rfl)) ?_; (with_reducible refine (gramaryebase_Itoa.calls k1 x9_1 t315 _ A99.out).mono ?_); rintro e w104 ⟨rfl, hb⟩; refine ⟨_, rfl, ?_⟩; have n0_ := Aside0.mk (Kd.R_below (by (with_reducible repeat (first | apply Kd.R_alloc | apply Kd.R_drewN | apply Kd.R_drew)); exact HO_8.out) hb); have n1_ := Aside0.mk (Kd.S_below (by (with_reducible repeat (first | apply Kd.S_alloc | apply Kd.S_drewN | apply Kd.S_drew)); exact HO_288000.out) hb); have n2_ := Aside0.mk (Kd.S_below (by (with_reducible repeat (first | apply Kd.S_alloc | apply Kd.S_drewN | apply Kd.S_drew)); exact HO_298000.out) hb); have n3_ := Aside0.mk (Kd.R_below (by (with_reducible repeat (first | apply Kd.R_alloc | apply Kd.R_drewN | apply Kd.R_drew)); exact HO314.out) hb); have n4_ := Aside0.mk (blk_below (g := gb287) (o := .cells #[.slice Ao77 t289.length co77] 24 (0, 0)) (by (with_reducible repeat (first | refine blk_drewN ?_ _ | refine blk_drew ?_ | refine blk_alloc ?_ _)); exact BK287.out) hb); have n5_ := Aside0.mk (blk_below (g := gb297) (o := .cells #[.slice (some ⟨go28, 0, none⟩) y301.length co83] 24 (0, 0)) (by (with_reducible repeat (first | refine blk_drewN ?_ _ | refine blk_drew ?_ | refine blk_alloc ?_ _)); exact BK297.out) hb); have n6_ := Aside0.mk (below_step (by repeat (first | (with_reducible first | exact HB.out | apply below_alloc | apply pw_below_drewN | apply below_drew1 | refine below_set ?_ GE287.out | refine below_set ?_ GE297.out) | exact HB.out)) hb); clear HO_8; clear HO_288000; clear HO_298000; clear HO314; clear BK287; clear BK297; clear HB; have HO_8 := n0_; have HO_288000 := n1_; have HO_298000 := n2_; have HO314 := n3_; have BK287 := n4_; have BK297 := n5_; have HB := n6_; clear n0_ n1_ n2_ n3_ n4_ n5_ n6_; (try clear hb); (try clear hb2); (try clear hk); (try clear hi)) | ((with_reducible refine gate_builtin (b := .append) (xs := #[.tmp 71, .tmp 75]) rfl ?_); at_builtin; refine Kd.R_append Kd.string (w0 := w) w.heap.size rfl (.tmp 71) (.tmp 75) 36 9 (.string ⟨#[]⟩) 16 rfl Tryd.underlying36 info9 rfl (by decide) (by omega) u8 x8_1 ((⟨#[84]⟩ : ByteArray) ++ t315) [.string ((⟨#[84]⟩ : ByteArray) ++ t315)] (fun k_ => some k_ ≠ (v313 : Value).ownBlock) (fun _ => False) rfl rfl ?aP (fun _ hk => hk.elim) ?aF ?aO ?aB ?aS ?aL ?_; (case aP => exact rfl); (case aB => exact (by repeat (first | (with_reducible first | exact HB.out | apply below_alloc | apply pw_below_drewN | apply below_drew1 | refine below_set ?_ GE287.out | refine below_set ?_ GE297.out) | exact HB.out))); (case aF => exact (fun k_ hk => Kd.fresh' (Kd.R_lt (by (with_reducible repeat (first | apply Kd.R_alloc | apply Kd.R_drewN | apply Kd.R_drew)); exact HO314.out)) k_ hk)); (case aO => exact (by (with_reducible repeat (first | apply Kd.R_alloc | apply Kd.R_drewN | apply Kd.R_drew)); exact Kd.R_mono HO_8.out (fun _ hk => hk.2))); (case aS => exact (below_size (by repeat (first | (with_reducible first | exact HB.out | apply below_alloc | apply pw_below_drewN | apply below_drew1 | refine below_set ?_ GE287.out | refine below_set ?_ GE297.out) | exact HB.out)))); (case aL => have := LMc101.out; omega); intro v317 w105 ho hb hg hat; rw [← Ny316.out] at ho; have n0_ := Aside0.mk (Kd.S_over' (by (with_reducible repeat (first | apply Kd.S_alloc | apply Kd.S_drewN | apply Kd.S_drew)); exact HO_288000.out) (Kd.R_typed (by (with_reducible repeat (first | apply Kd.R_alloc | apply Kd.R_drewN | apply Kd.R_drew)); exact HO_8.out)) (by decide) hg); have n1_ := Aside0.mk (Kd.S_over' (by (with_reducible repeat (first | apply Kd.S_alloc | apply Kd.S_drewN | apply Kd.S_drew)); exact HO_298000.out) (Kd.R_typed (by (with_reducible repeat (first | apply Kd.R_alloc | apply Kd.R_drewN | apply Kd.R_drew)); exact HO_8.out)) (by decide) hg); have n2_ := Aside0.mk (blk_grown (g := gb287) (o := .cells #[.slice Ao77 t289.length co77] 24 (0, 0)) (by (with_reducible repeat (first | refine blk_drewN ?_ _ | refine blk_drew ?_ | refine blk_alloc ?_ _)); exact BK287.out) hg (Kd.R_ne HO_8.out BK287.out (by decide))); have n3_ := Aside0.mk (blk_grown (g := gb297) (o := .cells #[.slice (some ⟨go28, 0, none⟩) y301.length co83] 24 (0, 0)) (by (with_reducible repeat (first | refine blk_drewN ?_ _ | refine blk_drew ?_ | refine blk_alloc ?_ _)); exact BK297.out) hg (Kd.R_ne HO_8.out BK297.out (by decide))); have n4_ := Aside0.mk (Kd.R_after (ok := (fun _ => True)) (by (with_reducible repeat (first | apply Kd.R_alloc | apply Kd.R_drewN | apply Kd.R_drew)); exact Kd.R_mono HO314.out (fun _ hk => ⟨trivial, hk⟩)) hg hat); have n5_ := Aside0.mk (hb); have n6_ := Aside0.mk (ho); clear HO_288000; clear HO_298000; clear BK287; clear BK297; clear HO314; clear HB; clear HO_8; have HO_288000 := n0_; have HO_298000 := n1_; have BK287 := n2_; have BK297 := n3_; have HO314 := n4_; have HB := n5_; have HO318 := n6_; clear n0_ n1_ n2_ n3_ n4_ n5_ n6_; clear ho hb hg hat))
              (try simp only [← hl298000_1])
              go_roundg k1
              case measure => have := HK1.out; omega
              case rel => exact ⟨(y312), (y316), (wrap64 (x9_1 + 1)), (by first | rfl | (simp; done) | (simp [*]; done)), H', ⟨by have := HK1.out; omega⟩, ⟨by (try simp only [hl298000_1]); (with_reducible repeat (first | apply Kd.R_alloc | apply Kd.R_drewN | apply Kd.R_drew)); exact Kd.R_mono HO314.out (fun _ hk => hk.2)⟩, ⟨by (try simp only [hl298000_1]); (with_reducible repeat (first | apply Kd.R_alloc | apply Kd.R_drewN | apply Kd.R_drew)); exact HO318.out⟩, ⟨by (try simp only [hl298000_1]); (with_reducible repeat (first | apply Kd.S_alloc | apply Kd.S_drewN | apply Kd.S_drew)); exact HO_288000.out⟩, ⟨by (try simp only [hl298000_1]); (with_reducible repeat (first | apply Kd.S_alloc | apply Kd.S_drewN | apply Kd.S_drew)); exact HO_298000.out⟩, ⟨by (try simp only [hl298000_1]); (with_reducible repeat (first | refine blk_drewN ?_ _ | refine blk_drew ?_ | refine blk_alloc ?_ _)); exact BK287.out⟩, ⟨by (try simp only [hl298000_1]); (with_reducible repeat (first | refine blk_drewN ?_ _ | refine blk_drew ?_ | refine blk_alloc ?_ _)); exact BK297.out⟩, ⟨by repeat (first | (with_reducible first | exact HB.out | apply below_alloc | apply pw_below_drewN | apply below_drew1 | refine below_set ?_ GE287.out | refine below_set ?_ GE297.out) | exact HB.out)⟩⟩
             ·
              rw [if_neg c101] at H
              exact absurd H (by simp)
            ·
             rw [if_neg c100] at H
             exact absurd H (by simp)
           ·
            rw [if_neg c98] at H
            exact absurd H (by simp)
          ·
           rw [if_neg c97] at H
           exact absurd H (by simp)
         ·
          rw [if_neg c95] at H
          have c95b0 : decide (x9_1 < 50) = false := decide_eq_false c95
          clear c95
          replace H := Option.bind_eq_some_iff.mp H
          obtain ⟨t319, A1060, H⟩ := H
          replace H : (if t319 = 0 then ((tree_Same.f t289 y301).bind fun t320 => (if t320 = true then (some false) else ((tree_Text.f t289 x7_1 x8_1).bind fun t321 => ((tree_Text.f y301 x7_1 x8_1).bind fun t322 => (some (t321.toList != t322.toList)))))) else (some false)) = some r := H
          have A106 := Aside0.mk A1060
          clear A1060
          by_cases c107 : t319 = 0
          ·
           rw [if_pos c107] at H
           have c107b0 : (t319 == 0) = true := beq_iff_eq.mpr c107
           have c107b1 : (t319 != 0) = false := bne_eq_false_iff_eq.mpr c107
           clear c107
           replace H := Option.bind_eq_some_iff.mp H
           obtain ⟨t320, A1080, H⟩ := H
           replace H : (if t320 = true then (some false) else ((tree_Text.f t289 x7_1 x8_1).bind fun t321 => ((tree_Text.f y301 x7_1 x8_1).bind fun t322 => (some (t321.toList != t322.toList))))) = some r := H
           have A108 := Aside0.mk A1080
           clear A1080
           by_cases c109 : t320 = true
           ·
            subst c109
            have H1 : (some false) = some r := by rw [if_pos rfl] at H; exact H
            clear H
            have H := H1
            clear H1
            obtain rfl := Option.some.inj H
            try go_wp2
            have n0_ := Aside0.mk (Kd.R_drew HO_7.out)
            have n1_ := Aside0.mk (Kd.R_drew HO_8.out)
            have n2_ := Aside0.mk (Kd.S_drew HO_288000.out)
            have n3_ := Aside0.mk (Kd.S_drew HO_298000.out)
            have n4_ := Aside0.mk (blk_drew BK287.out)
            have n5_ := Aside0.mk (blk_drew BK297.out)
            have n6_ := Aside0.mk (below_drew1 HB.out)
            clear HO_7
            clear HO_8
            clear HO_288000
            clear HO_298000
            clear BK287
            clear BK297
            clear HB
            have HO_7 := n0_
            have HO_8 := n1_
            have HO_288000 := n2_
            have HO_298000 := n3_
            have BK287 := n4_
            have BK297 := n5_
            have HB := n6_
            clear n0_ n1_ n2_ n3_ n4_ n5_ n6_
            refine start_ (n := 21) (S := fun w' => w'.cell? ⟨gb297, 0, none⟩ = some (.slice (some ⟨go28, 0, none⟩) y301.length co83) ∧ w'.cell? ⟨gb287, 0, none⟩ = some (.slice Ao77 t289.length co77)) (ds := []) #[false, false, false, false, false, false, false, false, false, false, false, false, false, false, false, false, false, false, false, false, false] (by kernel_rfl) rfl rfl ⟨(blk_cell BK297.out 0).trans rfl, (blk_cell BK287.out 0).trans rfl⟩ (fun hHeld => ?_); refine with_tabW gramaryelaw22_TreeApart.tab18 gramaryelaw22_TreeApart.bits18 (fun HT_ HW_ => ?_)
            generalize wr.drew = w110 at HO_7 HO_8 HO_288000 HO_298000 BK287 BK297 HB hHeld ⊢
            refine take_ (i := 0) (N := some 77) (v := ?_) (a' := ?_) #[true, false, false, false, false, false, false, false, false, false, false, false, false, false, false, false, false, false, false, false, false] rfl rfl (take_ofW HT_.out HW_.out (by kernel_rfl)) (fun _ _ _ h => h) (Or.inl ⟨by rfl, ?_⟩) hHeld ?_ ?_
            rotate_left
            ·
             rintro w' ⟨s0, s1⟩
             go_simp
             with_reducible rfl
            rotate_left
            ·
             simp only [Act.put, List.setIfInBounds_toArray, List.set_cons_zero, List.set_cons_succ, i64_w, i32_w]
             rfl
            refine one_ (i := 1) (N := some 78) #[true, true, false, false, false, false, false, false, false, false, false, false, false, false, false, false, false, false, false, false, false] rfl rfl (one_of HT_.out (by kernel_rfl)) (by decide) (fun K hK => ?_)
            refine goes_ Tryd.func11 (by kernel_rfl) rfl #[.agg #[.slice (some ⟨go28, 0, none⟩) y301.length co83]] (by rfl) rfl rfl (by (try simp only [List.map_toArray, List.map_cons, List.map_nil]); first | done | rfl | (simp only [List.length_drop, List.length_take]; rfl)) ?_
            with_reducible refine (tree_May.calls _ _ y301 t319 _ ?side1 ?side2 ?side3 A106.out).mono ?_
            (case side1 => repeat (first | exact (Kd.S_reads' HO_298000.out).2.2 | (with_reducible refine Kd.C_alloc ?_ _) | (with_reducible refine Kd.C_drewN ?_ _) | (with_reducible refine Kd.C_drew ?_)))
            (case side2 => exact (Kd.S_reads' HO_298000.out).2.1)
            (case side3 => exact GL_below HG.out (by repeat (first | (with_reducible first | exact HB.out | apply below_alloc | apply pw_below_drewN | apply below_drew1 | refine below_set ?_ GE287.out | refine below_set ?_ GE297.out) | exact HB.out)))
            rintro e w111 ⟨rfl, hb⟩
            refine ⟨_, rfl, ?_⟩
            have n0_ := Aside0.mk (Kd.R_below (by (with_reducible repeat (first | apply Kd.R_alloc | apply Kd.R_drewN | apply Kd.R_drew)); exact HO_7.out) hb)
            have n1_ := Aside0.mk (Kd.R_below (by (with_reducible repeat (first | apply Kd.R_alloc | apply Kd.R_drewN | apply Kd.R_drew)); exact HO_8.out) hb)
            have n2_ := Aside0.mk (Kd.S_below (by (with_reducible repeat (first | apply Kd.S_alloc | apply Kd.S_drewN | apply Kd.S_drew)); exact HO_288000.out) hb)
            have n3_ := Aside0.mk (Kd.S_below (by (with_reducible repeat (first | apply Kd.S_alloc | apply Kd.S_drewN | apply Kd.S_drew)); exact HO_298000.out) hb)
            have n4_ := Aside0.mk (blk_below (g := gb287) (o := .cells #[.slice Ao77 t289.length co77] 24 (0, 0)) (by (with_reducible repeat (first | refine blk_drewN ?_ _ | refine blk_drew ?_ | refine blk_alloc ?_ _)); exact BK287.out) hb)
            have n5_ := Aside0.mk (blk_below (g := gb297) (o := .cells #[.slice (some ⟨go28, 0, none⟩) y301.length co83] 24 (0, 0)) (by (with_reducible repeat (first | refine blk_drewN ?_ _ | refine blk_drew ?_ | refine blk_alloc ?_ _)); exact BK297.out) hb)
            have n6_ := Aside0.mk (below_step (by repeat (first | (with_reducible first | exact HB.out | apply below_alloc | apply pw_below_drewN | apply below_drew1 | refine below_set ?_ GE287.out | refine below_set ?_ GE297.out) | exact HB.out)) hb)
            clear HO_7
            clear HO_8
            clear HO_288000
            clear HO_298000
            clear BK287
            clear BK297
            clear HB
            have HO_7 := n0_
            have HO_8 := n1_
            have HO_288000 := n2_
            have HO_298000 := n3_
            have BK287 := n4_
            have BK297 := n5_
            have HB := n6_
            clear n0_ n1_ n2_ n3_ n4_ n5_ n6_
            (try clear hb)
            (try clear hb2)
            (try clear hk)
            (try clear hi)
            refine hK.out _ _ ⟨(blk_cell BK297.out 0).trans rfl, (blk_cell BK287.out 0).trans rfl⟩ (fun hHeld => ?_)
            clear hK K
            refine norm_ (a' := ?_) ?_ ?_
            rotate_left
            ·
             show Act.put _ (some 78) _ = _
             simp only [Act.put, List.setIfInBounds_toArray, List.set_cons_zero, List.set_cons_succ, i64_w, i32_w]
             rfl
            refine pure_ (i := 2) (N := some 79) (v := ?_) (a' := ?_) #[true, true, true, false, false, false, false, false, false, false, false, false, false, false, false, false, false, false, false, false, false] rfl rfl (any_of HT_.out (by kernel_rfl)) (fun _ _ _ h => h) (Or.inl ⟨by rfl, ?_⟩) ?_ ?_
            rotate_left
            ·
             intro w'
             go_simp
             with_reducible rfl
            rotate_left
            ·
             simp only [Act.put, List.setIfInBounds_toArray, List.set_cons_zero, List.set_cons_succ, i64_w, i32_w]
             rfl
            refine pure_ (i := 3) (N := some 80) (v := ?_) (a' := ?_) #[true, true, true, true, false, false, false, false, false, false, false, false, false, false, false, false, false, false, false, false, false] rfl rfl (any_of HT_.out (by kernel_rfl)) (fun _ _ _ h => h) (Or.inl ⟨by rfl, ?_⟩) ?_ ?_
            rotate_left
            ·
             intro w'
             go_simp
             with_reducible rfl
            rotate_left
            ·
             simp only [Act.put, List.setIfInBounds_toArray, List.set_cons_zero, List.set_cons_succ, i64_w, i32_w]
             rfl
            refine take_ (i := 4) (N := some 81) (v := ?_) (a' := ?_) #[true, true, true, true, true, false, false, false, false, false, false, false, false, false, false, false, false, false, false, false, false] rfl rfl (take_ofW HT_.out HW_.out (by kernel_rfl)) (fun _ _ _ h => h) (Or.inl ⟨by rfl, ?_⟩) hHeld ?_ ?_
            rotate_left
            ·
             rintro w' ⟨s0, s1⟩
             go_simp
             with_reducible rfl
            rotate_left
            ·
             simp only [Act.put, List.setIfInBounds_toArray, List.set_cons_zero, List.set_cons_succ, i64_w, i32_w]
             rfl
            refine take_ (i := 5) (N := some 82) (v := ?_) (a' := ?_) #[true, true, true, true, true, true, false, false, false, false, false, false, false, false, false, false, false, false, false, false, false] rfl rfl (take_ofW HT_.out HW_.out (by kernel_rfl)) (fun _ _ _ h => h) (Or.inl ⟨by rfl, ?_⟩) hHeld ?_ ?_
            rotate_left
            ·
             rintro w' ⟨s0, s1⟩
             go_simp
             with_reducible rfl
            rotate_left
            ·
             simp only [Act.put, List.setIfInBounds_toArray, List.set_cons_zero, List.set_cons_succ, i64_w, i32_w]
             rfl
            refine one_ (i := 6) (N := some 83) #[true, true, true, true, true, true, true, false, false, false, false, false, false, false, false, false, false, false, false, false, false] rfl rfl (one_of HT_.out (by kernel_rfl)) (by decide) (fun K hK => ?_)
            refine goes_ Tryd.func24 (by kernel_rfl) rfl #[.agg #[.slice Ao77 t289.length co77], .agg #[.slice (some ⟨go28, 0, none⟩) y301.length co83]] (by rfl) rfl rfl (by (try simp only [List.map_toArray, List.map_cons, List.map_nil]); first | done | rfl | (simp only [List.length_drop, List.length_take]; rfl)) ?_
            with_reducible refine (tree_Same.calls _ _ t289 _ _ y301 true _ ?side1 ?side2 ?side3 ?side4 ?side5 A108.out).mono ?_
            (case side1 => repeat (first | exact (Kd.S_reads' HO_288000.out).2.2 | (with_reducible refine Kd.C_alloc ?_ _) | (with_reducible refine Kd.C_drewN ?_ _) | (with_reducible refine Kd.C_drew ?_)))
            (case side2 => exact (Kd.S_reads' HO_288000.out).2.1)
            (case side3 => repeat (first | exact (Kd.S_reads' HO_298000.out).2.2 | (with_reducible refine Kd.C_alloc ?_ _) | (with_reducible refine Kd.C_drewN ?_ _) | (with_reducible refine Kd.C_drew ?_)))
            (case side4 => exact (Kd.S_reads' HO_298000.out).2.1)
            (case side5 => exact GL_below HG.out (by repeat (first | (with_reducible first | exact HB.out | apply below_alloc | apply pw_below_drewN | apply below_drew1 | refine below_set ?_ GE287.out | refine below_set ?_ GE297.out) | exact HB.out)))
            rintro e w112 ⟨rfl, hb⟩
            refine ⟨_, rfl, ?_⟩
            have n0_ := Aside0.mk (Kd.R_below (by (with_reducible repeat (first | apply Kd.R_alloc | apply Kd.R_drewN | apply Kd.R_drew)); exact HO_7.out) hb)
            have n1_ := Aside0.mk (Kd.R_below (by (with_reducible repeat (first | apply Kd.R_alloc | apply Kd.R_drewN | apply Kd.R_drew)); exact HO_8.out) hb)
            have n2_ := Aside0.mk (Kd.S_below (by (with_reducible repeat (first | apply Kd.S_alloc | apply Kd.S_drewN | apply Kd.S_drew)); exact HO_288000.out) hb)
            have n3_ := Aside0.mk (Kd.S_below (by (with_reducible repeat (first | apply Kd.S_alloc | apply Kd.S_drewN | apply Kd.S_drew)); exact HO_298000.out) hb)
            have n4_ := Aside0.mk (blk_below (g := gb287) (o := .cells #[.slice Ao77 t289.length co77] 24 (0, 0)) (by (with_reducible repeat (first | refine blk_drewN ?_ _ | refine blk_drew ?_ | refine blk_alloc ?_ _)); exact BK287.out) hb)
            have n5_ := Aside0.mk (blk_below (g := gb297) (o := .cells #[.slice (some ⟨go28, 0, none⟩) y301.length co83] 24 (0, 0)) (by (with_reducible repeat (first | refine blk_drewN ?_ _ | refine blk_drew ?_ | refine blk_alloc ?_ _)); exact BK297.out) hb)
            have n6_ := Aside0.mk (below_step (by repeat (first | (with_reducible first | exact HB.out | apply below_alloc | apply pw_below_drewN | apply below_drew1 | refine below_set ?_ GE287.out | refine below_set ?_ GE297.out) | exact HB.out)) hb)
            clear HO_7
            clear HO_8
            clear HO_288000
            clear HO_298000
            clear BK287
            clear BK297
            clear HB
            have HO_7 := n0_
            have HO_8 := n1_
            have HO_288000 := n2_
            have HO_298000 := n3_
            have BK287 := n4_
            have BK297 := n5_
            have HB := n6_
            clear n0_ n1_ n2_ n3_ n4_ n5_ n6_
            (try clear hb)
            (try clear hb2)
            (try clear hk)
            (try clear hi)
            refine hK.out _ _ ⟨(blk_cell BK297.out 0).trans rfl, (blk_cell BK287.out 0).trans rfl⟩ (fun hHeld => ?_)
            clear hK K
            refine norm_ (a' := ?_) ?_ ?_
            rotate_left
            ·
             show Act.put _ (some 83) _ = _
             simp only [Act.put, List.setIfInBounds_toArray, List.set_cons_zero, List.set_cons_succ, i64_w, i32_w]
             rfl
            refine pure_ (i := 7) (N := some 84) (v := ?_) (a' := ?_) #[true, true, true, true, true, true, true, true, false, false, false, false, false, false, false, false, false, false, false, false, false] rfl rfl (any_of HT_.out (by kernel_rfl)) (fun _ _ _ h => h) (Or.inl ⟨by rfl, ?_⟩) ?_ ?_
            rotate_left
            ·
             intro w'
             go_simp
             with_reducible rfl
            rotate_left
            ·
             simp only [Act.put, List.setIfInBounds_toArray, List.set_cons_zero, List.set_cons_succ, i64_w, i32_w]
             rfl
            refine pure_ (i := 8) (N := some 85) (v := ?_) (a' := ?_) #[true, true, true, true, true, true, true, true, true, false, false, false, false, false, false, false, false, false, false, false, false] rfl rfl (any_of HT_.out (by kernel_rfl)) (fun _ _ _ h => h) (Or.inl ⟨by rfl, ?_⟩) ?_ ?_
            rotate_left
            ·
             intro w'
             go_simp
             with_reducible rfl
            rotate_left
            ·
             simp only [Act.put, List.setIfInBounds_toArray, List.set_cons_zero, List.set_cons_succ, i64_w, i32_w]
             rfl
            refine pure_ (i := 9) (N := some 86) (v := ?_) (a' := ?_) #[true, true, true, true, true, true, true, true, true, true, false, false, false, false, false, false, false, false, false, false, false] rfl rfl (any_of HT_.out (by kernel_rfl)) (fun _ _ _ h => h) (Or.inl ⟨by rfl, ?_⟩) ?_ ?_
            rotate_left
            ·
             intro w'
             go_simp
             with_reducible rfl
            rotate_left
            ·
             simp only [Act.put, List.setIfInBounds_toArray, List.set_cons_zero, List.set_cons_succ, i64_w, i32_w]
             rfl
            refine pure_ (i := 10) (N := some 87) (v := undef) (a' := ?_) #[true, true, true, true, true, true, true, true, true, true, true, false, false, false, false, false, false, false, false, false, false] rfl rfl (any_of HT_.out (by kernel_rfl)) (fun _ _ _ h => h) (Or.inr ⟨by rfl, rfl⟩) ?_ ?_
            rotate_left
            ·
             simp only [Act.put, List.setIfInBounds_toArray, List.set_cons_zero, List.set_cons_succ, i64_w, i32_w]
             rfl
            refine pure_ (i := 11) (N := some 88) (v := undef) (a' := ?_) #[true, true, true, true, true, true, true, true, true, true, true, true, false, false, false, false, false, false, false, false, false] rfl rfl (any_of HT_.out (by kernel_rfl)) (fun _ _ _ h => h) (Or.inr ⟨by rfl, rfl⟩) ?_ ?_
            rotate_left
            ·
             simp only [Act.put, List.setIfInBounds_toArray, List.set_cons_zero, List.set_cons_succ, i64_w, i32_w]
             rfl
            refine pure_ (i := 12) (N := some 89) (v := undef) (a' := ?_) #[true, true, true, true, true, true, true, true, true, true, true, true, true, false, false, false, false, false, false, false, false] rfl rfl (any_of HT_.out (by kernel_rfl)) (fun _ _ _ h => h) (Or.inr ⟨by rfl, rfl⟩) ?_ ?_
            rotate_left
            ·
             simp only [Act.put, List.setIfInBounds_toArray, List.set_cons_zero, List.set_cons_succ, i64_w, i32_w]
             rfl
            refine pure_ (i := 13) (N := some 90) (v := undef) (a' := ?_) #[true, true, true, true, true, true, true, true, true, true, true, true, true, true, false, false, false, false, false, false, false] rfl rfl (any_of HT_.out (by kernel_rfl)) (fun _ _ _ h => h) (Or.inr ⟨by rfl, rfl⟩) ?_ ?_
            rotate_left
            ·
             simp only [Act.put, List.setIfInBounds_toArray, List.set_cons_zero, List.set_cons_succ, i64_w, i32_w]
             rfl
            refine pure_ (i := 14) (N := some 91) (v := undef) (a' := ?_) #[true, true, true, true, true, true, true, true, true, true, true, true, true, true, true, false, false, false, false, false, false] rfl rfl (any_of HT_.out (by kernel_rfl)) (fun _ _ _ h => h) (Or.inr ⟨by rfl, rfl⟩) ?_ ?_
            rotate_left
            ·
             simp only [Act.put, List.setIfInBounds_toArray, List.set_cons_zero, List.set_cons_succ, i64_w, i32_w]
             rfl
            refine pure_ (i := 15) (N := some 92) (v := undef) (a' := ?_) #[true, true, true, true, true, true, true, true, true, true, true, true, true, true, true, true, false, false, false, false, false] rfl rfl (any_of HT_.out (by kernel_rfl)) (fun _ _ _ h => h) (Or.inr ⟨by rfl, rfl⟩) ?_ ?_
            rotate_left
            ·
             simp only [Act.put, List.setIfInBounds_toArray, List.set_cons_zero, List.set_cons_succ, i64_w, i32_w]
             rfl
            refine pure_ (i := 16) (N := some 93) (v := undef) (a' := ?_) #[true, true, true, true, true, true, true, true, true, true, true, true, true, true, true, true, true, false, false, false, false] rfl rfl (any_of HT_.out (by kernel_rfl)) (fun _ _ _ h => h) (Or.inr ⟨by rfl, rfl⟩) ?_ ?_
            rotate_left
            ·
             simp only [Act.put, List.setIfInBounds_toArray, List.set_cons_zero, List.set_cons_succ, i64_w, i32_w]
             rfl
            refine pure_ (i := 17) (N := some 94) (v := undef) (a' := ?_) #[true, true, true, true, true, true, true, true, true, true, true, true, true, true, true, true, true, true, false, false, false] rfl rfl (any_of HT_.out (by kernel_rfl)) (fun _ _ _ h => h) (Or.inr ⟨by rfl, rfl⟩) ?_ ?_
            rotate_left
            ·
             simp only [Act.put, List.setIfInBounds_toArray, List.set_cons_zero, List.set_cons_succ, i64_w, i32_w]
             rfl
            refine pure_ (i := 18) (N := some 95) (v := undef) (a' := ?_) #[true, true, true, true, true, true, true, true, true, true, true, true, true, true, true, true, true, true, true, false, false] rfl rfl (any_of HT_.out (by kernel_rfl)) (fun _ _ _ h => h) (Or.inr ⟨by rfl, rfl⟩) ?_ ?_
            rotate_left
            ·
             simp only [Act.put, List.setIfInBounds_toArray, List.set_cons_zero, List.set_cons_succ, i64_w, i32_w]
             rfl
            refine pure_ (i := 19) (N := some 96) (v := ?_) (a' := ?_) #[true, true, true, true, true, true, true, true, true, true, true, true, true, true, true, true, true, true, true, true, false] rfl rfl (any_of HT_.out (by kernel_rfl)) (fun _ _ _ h => h) (Or.inl ⟨by rfl, ?_⟩) ?_ ?_
            rotate_left
            ·
             intro w'
             go_simp
             with_reducible rfl
            rotate_left
            ·
             simp only [Act.put, List.setIfInBounds_toArray, List.set_cons_zero, List.set_cons_succ, i64_w, i32_w]
             rfl
            refine pure_ (i := 20) (N := some 4) (v := ?_) (a' := ?_) #[true, true, true, true, true, true, true, true, true, true, true, true, true, true, true, true, true, true, true, true, true] rfl rfl (any_of HT_.out (by kernel_rfl)) (fun _ _ _ h => h) (Or.inl ⟨by rfl, ?_⟩) ?_ ?_
            rotate_left
            ·
             intro w'
             go_simp
             with_reducible rfl
            rotate_left
            ·
             simp only [Act.put, List.setIfInBounds_toArray, List.set_cons_zero, List.set_cons_succ, i64_w, i32_w]
             rfl
            refine done_ (done_of HT_.out (by kernel_rfl)) ?_
            try go_wp2
            go_ret
            exact ⟨by first | rfl | (simp [errW_none, errW_some] <;> rfl) | (simp [*, errW_none, errW_some] <;> rfl), by repeat (first | (with_reducible first | exact HB.out | apply below_alloc | apply pw_below_drewN | apply below_drew1 | refine below_set ?_ GE287.out | refine below_set ?_ GE297.out) | exact HB.out)⟩
           ·
            replace c109 := Bool.eq_false_iff.mpr c109
            subst c109
            have H1 : ((tree_Text.f t289 x7_1 x8_1).bind fun t321 => ((tree_Text.f y301 x7_1 x8_1).bind fun t322 => (some (t321.toList != t322.toList)))) = some r := by rw [if_neg (show ¬ (false = true) by decide)] at H; exact H
            clear H
            have H := H1
            clear H1
            replace H := Option.bind_eq_some_iff.mp H
            obtain ⟨t321, A1130, H⟩ := H
            replace H : ((tree_Text.f y301 x7_1 x8_1).bind fun t322 => (some (t321.toList != t322.toList))) = some r := H
            have A113 := Aside0.mk A1130
            clear A1130
            replace H := Option.bind_eq_some_iff.mp H
            obtain ⟨t322, A1140, H⟩ := H
            replace H : (some (t321.toList != t322.toList)) = some r := H
            have A114 := Aside0.mk A1140
            clear A1140
            obtain rfl := Option.some.inj H
            try go_wp2
            have n0_ := Aside0.mk (Kd.R_drew HO_7.out)
            have n1_ := Aside0.mk (Kd.R_drew HO_8.out)
            have n2_ := Aside0.mk (Kd.S_drew HO_288000.out)
            have n3_ := Aside0.mk (Kd.S_drew HO_298000.out)
            have n4_ := Aside0.mk (blk_drew BK287.out)
            have n5_ := Aside0.mk (blk_drew BK297.out)
            have n6_ := Aside0.mk (below_drew1 HB.out)
            clear HO_7
            clear HO_8
            clear HO_288000
            clear HO_298000
            clear BK287
            clear BK297
            clear HB
            have HO_7 := n0_
            have HO_8 := n1_
            have HO_288000 := n2_
            have HO_298000 := n3_
            have BK287 := n4_
            have BK297 := n5_
            have HB := n6_
            clear n0_ n1_ n2_ n3_ n4_ n5_ n6_
            refine start_ (n := 21) (S := fun w' => w'.cell? ⟨gb297, 0, none⟩ = some (.slice (some ⟨go28, 0, none⟩) y301.length co83) ∧ w'.cell? ⟨gb287, 0, none⟩ = some (.slice Ao77 t289.length co77)) (ds := []) #[false, false, false, false, false, false, false, false, false, false, false, false, false, false, false, false, false, false, false, false, false] (by kernel_rfl) rfl rfl ⟨(blk_cell BK297.out 0).trans rfl, (blk_cell BK287.out 0).trans rfl⟩ (fun hHeld => ?_); refine with_tabW gramaryelaw22_TreeApart.tab18 gramaryelaw22_TreeApart.bits18 (fun HT_ HW_ => ?_)
            generalize wr.drew = w115 at HO_7 HO_8 HO_288000 HO_298000 BK287 BK297 HB hHeld ⊢
            refine take_ (i := 0) (N := some 77) (v := ?_) (a' := ?_) #[true, false, false, false, false, false, false, false, false, false, false, false, false, false, false, false, false, false, false, false, false] rfl rfl (take_ofW HT_.out HW_.out (by kernel_rfl)) (fun _ _ _ h => h) (Or.inl ⟨by rfl, ?_⟩) hHeld ?_ ?_
            rotate_left
            ·
             rintro w' ⟨s0, s1⟩
             go_simp
             with_reducible rfl
            rotate_left
            ·
             simp only [Act.put, List.setIfInBounds_toArray, List.set_cons_zero, List.set_cons_succ, i64_w, i32_w]
             rfl
            refine one_ (i := 1) (N := some 78) #[true, true, false, false, false, false, false, false, false, false, false, false, false, false, false, false, false, false, false, false, false] rfl rfl (one_of HT_.out (by kernel_rfl)) (by decide) (fun K hK => ?_)
            refine goes_ Tryd.func11 (by kernel_rfl) rfl #[.agg #[.slice (some ⟨go28, 0, none⟩) y301.length co83]] (by rfl) rfl rfl (by (try simp only [List.map_toArray, List.map_cons, List.map_nil]); first | done | rfl | (simp only [List.length_drop, List.length_take]; rfl)) ?_
            with_reducible refine (tree_May.calls _ _ y301 t319 _ ?side1 ?side2 ?side3 A106.out).mono ?_
            (case side1 => repeat (first | exact (Kd.S_reads' HO_298000.out).2.2 | (with_reducible refine Kd.C_alloc ?_ _) | (with_reducible refine Kd.C_drewN ?_ _) | (with_reducible refine Kd.C_drew ?_)))
            (case side2 => exact (Kd.S_reads' HO_298000.out).2.1)
            (case side3 => exact GL_below HG.out (by repeat (first | (with_reducible first | exact HB.out | apply below_alloc | apply pw_below_drewN | apply below_drew1 | refine below_set ?_ GE287.out | refine below_set ?_ GE297.out) | exact HB.out)))
            rintro e w116 ⟨rfl, hb⟩
            refine ⟨_, rfl, ?_⟩
            have n0_ := Aside0.mk (Kd.R_below (by (with_reducible repeat (first | apply Kd.R_alloc | apply Kd.R_drewN | apply Kd.R_drew)); exact HO_7.out) hb)
            have n1_ := Aside0.mk (Kd.R_below (by (with_reducible repeat (first | apply Kd.R_alloc | apply Kd.R_drewN | apply Kd.R_drew)); exact HO_8.out) hb)
            have n2_ := Aside0.mk (Kd.S_below (by (with_reducible repeat (first | apply Kd.S_alloc | apply Kd.S_drewN | apply Kd.S_drew)); exact HO_288000.out) hb)
            have n3_ := Aside0.mk (Kd.S_below (by (with_reducible repeat (first | apply Kd.S_alloc | apply Kd.S_drewN | apply Kd.S_drew)); exact HO_298000.out) hb)
            have n4_ := Aside0.mk (blk_below (g := gb287) (o := .cells #[.slice Ao77 t289.length co77] 24 (0, 0)) (by (with_reducible repeat (first | refine blk_drewN ?_ _ | refine blk_drew ?_ | refine blk_alloc ?_ _)); exact BK287.out) hb)
            have n5_ := Aside0.mk (blk_below (g := gb297) (o := .cells #[.slice (some ⟨go28, 0, none⟩) y301.length co83] 24 (0, 0)) (by (with_reducible repeat (first | refine blk_drewN ?_ _ | refine blk_drew ?_ | refine blk_alloc ?_ _)); exact BK297.out) hb)
            have n6_ := Aside0.mk (below_step (by repeat (first | (with_reducible first | exact HB.out | apply below_alloc | apply pw_below_drewN | apply below_drew1 | refine below_set ?_ GE287.out | refine below_set ?_ GE297.out) | exact HB.out)) hb)
            clear HO_7
            clear HO_8
            clear HO_288000
            clear HO_298000
            clear BK287
            clear BK297
            clear HB
            have HO_7 := n0_
            have HO_8 := n1_
            have HO_288000 := n2_
            have HO_298000 := n3_
            have BK287 := n4_
            have BK297 := n5_
            have HB := n6_
            clear n0_ n1_ n2_ n3_ n4_ n5_ n6_
            (try clear hb)
            (try clear hb2)
            (try clear hk)
            (try clear hi)
            refine hK.out _ _ ⟨(blk_cell BK297.out 0).trans rfl, (blk_cell BK287.out 0).trans rfl⟩ (fun hHeld => ?_)
            clear hK K
            refine norm_ (a' := ?_) ?_ ?_
            rotate_left
            ·
             show Act.put _ (some 78) _ = _
             simp only [Act.put, List.setIfInBounds_toArray, List.set_cons_zero, List.set_cons_succ, i64_w, i32_w]
             rfl
            refine pure_ (i := 2) (N := some 79) (v := ?_) (a' := ?_) #[true, true, true, false, false, false, false, false, false, false, false, false, false, false, false, false, false, false, false, false, false] rfl rfl (any_of HT_.out (by kernel_rfl)) (fun _ _ _ h => h) (Or.inl ⟨by rfl, ?_⟩) ?_ ?_
            rotate_left
            ·
             intro w'
             go_simp
             with_reducible rfl
            rotate_left
            ·
             simp only [Act.put, List.setIfInBounds_toArray, List.set_cons_zero, List.set_cons_succ, i64_w, i32_w]
             rfl
            refine pure_ (i := 3) (N := some 80) (v := ?_) (a' := ?_) #[true, true, true, true, false, false, false, false, false, false, false, false, false, false, false, false, false, false, false, false, false] rfl rfl (any_of HT_.out (by kernel_rfl)) (fun _ _ _ h => h) (Or.inl ⟨by rfl, ?_⟩) ?_ ?_
            rotate_left
            ·
             intro w'
             go_simp
             with_reducible rfl
            rotate_left
            ·
             simp only [Act.put, List.setIfInBounds_toArray, List.set_cons_zero, List.set_cons_succ, i64_w, i32_w]
             rfl
            refine take_ (i := 4) (N := some 81) (v := ?_) (a' := ?_) #[true, true, true, true, true, false, false, false, false, false, false, false, false, false, false, false, false, false, false, false, false] rfl rfl (take_ofW HT_.out HW_.out (by kernel_rfl)) (fun _ _ _ h => h) (Or.inl ⟨by rfl, ?_⟩) hHeld ?_ ?_
            rotate_left
            ·
             rintro w' ⟨s0, s1⟩
             go_simp
             with_reducible rfl
            rotate_left
            ·
             simp only [Act.put, List.setIfInBounds_toArray, List.set_cons_zero, List.set_cons_succ, i64_w, i32_w]
             rfl
            refine take_ (i := 5) (N := some 82) (v := ?_) (a' := ?_) #[true, true, true, true, true, true, false, false, false, false, false, false, false, false, false, false, false, false, false, false, false] rfl rfl (take_ofW HT_.out HW_.out (by kernel_rfl)) (fun _ _ _ h => h) (Or.inl ⟨by rfl, ?_⟩) hHeld ?_ ?_
            rotate_left
            ·
             rintro w' ⟨s0, s1⟩
             go_simp
             with_reducible rfl
            rotate_left
            ·
             simp only [Act.put, List.setIfInBounds_toArray, List.set_cons_zero, List.set_cons_succ, i64_w, i32_w]
             rfl
            refine one_ (i := 6) (N := some 83) #[true, true, true, true, true, true, true, false, false, false, false, false, false, false, false, false, false, false, false, false, false] rfl rfl (one_of HT_.out (by kernel_rfl)) (by decide) (fun K hK => ?_)
            refine goes_ Tryd.func24 (by kernel_rfl) rfl #[.agg #[.slice Ao77 t289.length co77], .agg #[.slice (some ⟨go28, 0, none⟩) y301.length co83]] (by rfl) rfl rfl (by (try simp only [List.map_toArray, List.map_cons, List.map_nil]); first | done | rfl | (simp only [List.length_drop, List.length_take]; rfl)) ?_
            with_reducible refine (tree_Same.calls _ _ t289 _ _ y301 false _ ?side1 ?side2 ?side3 ?side4 ?side5 A108.out).mono ?_
            (case side1 => repeat (first | exact (Kd.S_reads' HO_288000.out).2.2 | (with_reducible refine Kd.C_alloc ?_ _) | (with_reducible refine Kd.C_drewN ?_ _) | (with_reducible refine Kd.C_drew ?_)))
            (case side2 => exact (Kd.S_reads' HO_288000.out).2.1)
            (case side3 => repeat (first | exact (Kd.S_reads' HO_298000.out).2.2 | (with_reducible refine Kd.C_alloc ?_ _) | (with_reducible refine Kd.C_drewN ?_ _) | (with_reducible refine Kd.C_drew ?_)))
            (case side4 => exact (Kd.S_reads' HO_298000.out).2.1)
            (case side5 => exact GL_below HG.out (by repeat (first | (with_reducible first | exact HB.out | apply below_alloc | apply pw_below_drewN | apply below_drew1 | refine below_set ?_ GE287.out | refine below_set ?_ GE297.out) | exact HB.out)))
            rintro e w117 ⟨rfl, hb⟩
            refine ⟨_, rfl, ?_⟩
            have n0_ := Aside0.mk (Kd.R_below (by (with_reducible repeat (first | apply Kd.R_alloc | apply Kd.R_drewN | apply Kd.R_drew)); exact HO_7.out) hb)
            have n1_ := Aside0.mk (Kd.R_below (by (with_reducible repeat (first | apply Kd.R_alloc | apply Kd.R_drewN | apply Kd.R_drew)); exact HO_8.out) hb)
            have n2_ := Aside0.mk (Kd.S_below (by (with_reducible repeat (first | apply Kd.S_alloc | apply Kd.S_drewN | apply Kd.S_drew)); exact HO_288000.out) hb)
            have n3_ := Aside0.mk (Kd.S_below (by (with_reducible repeat (first | apply Kd.S_alloc | apply Kd.S_drewN | apply Kd.S_drew)); exact HO_298000.out) hb)
            have n4_ := Aside0.mk (blk_below (g := gb287) (o := .cells #[.slice Ao77 t289.length co77] 24 (0, 0)) (by (with_reducible repeat (first | refine blk_drewN ?_ _ | refine blk_drew ?_ | refine blk_alloc ?_ _)); exact BK287.out) hb)
            have n5_ := Aside0.mk (blk_below (g := gb297) (o := .cells #[.slice (some ⟨go28, 0, none⟩) y301.length co83] 24 (0, 0)) (by (with_reducible repeat (first | refine blk_drewN ?_ _ | refine blk_drew ?_ | refine blk_alloc ?_ _)); exact BK297.out) hb)
            have n6_ := Aside0.mk (below_step (by repeat (first | (with_reducible first | exact HB.out | apply below_alloc | apply pw_below_drewN | apply below_drew1 | refine below_set ?_ GE287.out | refine below_set ?_ GE297.out) | exact HB.out)) hb)
            clear HO_7
            clear HO_8
            clear HO_288000
            clear HO_298000
            clear BK287
            clear BK297
            clear HB
            have HO_7 := n0_
            have HO_8 := n1_
            have HO_288000 := n2_
            have HO_298000 := n3_
            have BK287 := n4_
            have BK297 := n5_
            have HB := n6_
            clear n0_ n1_ n2_ n3_ n4_ n5_ n6_
            (try clear hb)
            (try clear hb2)
            (try clear hk)
            (try clear hi)
            obtain ⟨Ao118, co118, eo118⟩ := Kd.R_slice HO_7.out
            (first | subst eo118 | (injection eo118 with f1_ f2_ f3_; have f4_ := f1_.symm; have f5_ := f3_.symm; clear f1_ f2_ f3_; subst f4_; subst f5_))
            obtain ⟨Ao119, co119, eo119⟩ := Kd.R_slice HO_8.out
            (first | subst eo119 | (injection eo119 with f1_ f2_ f3_; have f4_ := f1_.symm; have f5_ := f3_.symm; clear f1_ f2_ f3_; subst f4_; subst f5_))
            refine hK.out _ _ ⟨(blk_cell BK297.out 0).trans rfl, (blk_cell BK287.out 0).trans rfl⟩ (fun hHeld => ?_)
            clear hK K
            refine norm_ (a' := ?_) ?_ ?_
            rotate_left
            ·
             show Act.put _ (some 83) _ = _
             simp only [Act.put, List.setIfInBounds_toArray, List.set_cons_zero, List.set_cons_succ, i64_w, i32_w]
             rfl
            refine pure_ (i := 7) (N := some 84) (v := ?_) (a' := ?_) #[true, true, true, true, true, true, true, true, false, false, false, false, false, false, false, false, false, false, false, false, false] rfl rfl (any_of HT_.out (by kernel_rfl)) (fun _ _ _ h => h) (Or.inl ⟨by rfl, ?_⟩) ?_ ?_
            rotate_left
            ·
             intro w'
             go_simp
             with_reducible rfl
            rotate_left
            ·
             simp only [Act.put, List.setIfInBounds_toArray, List.set_cons_zero, List.set_cons_succ, i64_w, i32_w]
             rfl
            refine pure_ (i := 8) (N := some 85) (v := ?_) (a' := ?_) #[true, true, true, true, true, true, true, true, true, false, false, false, false, false, false, false, false, false, false, false, false] rfl rfl (any_of HT_.out (by kernel_rfl)) (fun _ _ _ h => h) (Or.inl ⟨by rfl, ?_⟩) ?_ ?_
            rotate_left
            ·
             intro w'
             go_simp
             with_reducible rfl
            rotate_left
            ·
             simp only [Act.put, List.setIfInBounds_toArray, List.set_cons_zero, List.set_cons_succ, i64_w, i32_w]
             rfl
            refine pure_ (i := 9) (N := some 86) (v := ?_) (a' := ?_) #[true, true, true, true, true, true, true, true, true, true, false, false, false, false, false, false, false, false, false, false, false] rfl rfl (any_of HT_.out (by kernel_rfl)) (fun _ _ _ h => h) (Or.inl ⟨by rfl, ?_⟩) ?_ ?_
            rotate_left
            ·
             intro w'
             go_simp
             with_reducible rfl
            rotate_left
            ·
             simp only [Act.put, List.setIfInBounds_toArray, List.set_cons_zero, List.set_cons_succ, i64_w, i32_w]
             rfl
            refine pure_ (i := 11) (N := some 88) (v := ?_) (a' := ?_) #[true, true, true, true, true, true, true, true, true, true, false, true, false, false, false, false, false, false, false, false, false] rfl rfl (any_of HT_.out (by kernel_rfl)) (fun _ _ _ h => h) (Or.inl ⟨by rfl, ?_⟩) ?_ ?_
            rotate_left
            ·
             intro w'
             go_simp
             with_reducible rfl
            rotate_left
            ·
             simp only [Act.put, List.setIfInBounds_toArray, List.set_cons_zero, List.set_cons_succ, i64_w, i32_w]
             rfl
            refine pure_ (i := 12) (N := some 89) (v := ?_) (a' := ?_) #[true, true, true, true, true, true, true, true, true, true, false, true, true, false, false, false, false, false, false, false, false] rfl rfl (any_of HT_.out (by kernel_rfl)) (fun _ _ _ h => h) (Or.inl ⟨by rfl, ?_⟩) ?_ ?_
            rotate_left
            ·
             intro w'
             go_simp
             with_reducible rfl
            rotate_left
            ·
             simp only [Act.put, List.setIfInBounds_toArray, List.set_cons_zero, List.set_cons_succ, i64_w, i32_w]
             rfl
            refine pure_ (i := 15) (N := some 92) (v := ?_) (a' := ?_) #[true, true, true, true, true, true, true, true, true, true, false, true, true, false, false, true, false, false, false, false, false] rfl rfl (any_of HT_.out (by kernel_rfl)) (fun _ _ _ h => h) (Or.inl ⟨by rfl, ?_⟩) ?_ ?_
            rotate_left
            ·
             intro w'
             go_simp
             with_reducible rfl
            rotate_left
            ·
             simp only [Act.put, List.setIfInBounds_toArray, List.set_cons_zero, List.set_cons_succ, i64_w, i32_w]
             rfl
            refine pure_ (i := 16) (N := some 93) (v := ?_) (a' := ?_) #[true, true, true, true, true, true, true, true, true, true, false, true, true, false, false, true, true, false, false, false, false] rfl rfl (any_of HT_.out (by kernel_rfl)) (fun _ _ _ h => h) (Or.inl ⟨by rfl, ?_⟩) ?_ ?_
            rotate_left
            ·
             intro w'
             go_simp
             with_reducible rfl
            rotate_left
            ·
             simp only [Act.put, List.setIfInBounds_toArray, List.set_cons_zero, List.set_cons_succ, i64_w, i32_w]
             rfl
            refine take_ (i := 10) (N := some 87) (v := ?_) (a' := ?_) #[true, true, true, true, true, true, true, true, true, true, true, true, true, false, false, true, true, false, false, false, false] rfl rfl (take_ofW HT_.out HW_.out (by kernel_rfl)) (fun _ _ _ h => h) (Or.inl ⟨by rfl, ?_⟩) hHeld ?_ ?_
            rotate_left
            ·
             rintro w' ⟨s0, s1⟩
             go_simp
             with_reducible rfl
            rotate_left
            ·
             simp only [Act.put, List.setIfInBounds_toArray, List.set_cons_zero, List.set_cons_succ, i64_w, i32_w]
             rfl
            refine take_ (i := 14) (N := some 91) (v := ?_) (a' := ?_) #[true, true, true, true, true, true, true, true, true, true, true, true, true, false, true, true, true, false, false, false, false] rfl rfl (take_ofW HT_.out HW_.out (by kernel_rfl)) (fun _ _ _ h => h) (Or.inl ⟨by rfl, ?_⟩) hHeld ?_ ?_
            rotate_left
            ·
             rintro w' ⟨s0, s1⟩
             go_simp
             with_reducible rfl
            rotate_left
            ·
             simp only [Act.put, List.setIfInBounds_toArray, List.set_cons_zero, List.set_cons_succ, i64_w, i32_w]
             rfl
            refine one_ (i := 13) (N := some 90) #[true, true, true, true, true, true, true, true, true, true, true, true, true, true, true, true, true, false, false, false, false] rfl rfl (one_of HT_.out (by kernel_rfl)) (by decide) (fun K hK => ?_)
            refine goes_ Tryd.func22 (by kernel_rfl) rfl #[.agg #[.slice Ao77 t289.length co77], .slice Ao118 x7_1.length co118, .slice Ao119 x8_1.length co119] (by rfl) rfl rfl (by (try simp only [List.map_toArray, List.map_cons, List.map_nil]); first | done | rfl | (simp only [List.length_drop, List.length_take]; rfl)) ?_
            with_reducible refine (tree_Text.calls _ _ t289 _ _ x7_1 _ _ x8_1 t321 _ ?side1 ?side2 ?side3 ?side4 ?side5 ?side6 ?side7 A113.out).mono ?_
            (case side1 => repeat (first | exact (Kd.S_reads' HO_288000.out).2.2 | (with_reducible refine Kd.C_alloc ?_ _) | (with_reducible refine Kd.C_drewN ?_ _) | (with_reducible refine Kd.C_drew ?_)))
            (case side2 => exact (Kd.S_reads' HO_288000.out).2.1)
            (case side3 => repeat (first | exact (Kd.R_reads' HO_7.out).2.2 | (with_reducible refine Kd.C_alloc ?_ _) | (with_reducible refine Kd.C_drewN ?_ _) | (with_reducible refine Kd.C_drew ?_)))
            (case side4 => exact (Kd.R_reads' HO_7.out).2.1)
            (case side5 => repeat (first | exact (Kd.R_reads' HO_8.out).2.2 | (with_reducible refine Kd.C_alloc ?_ _) | (with_reducible refine Kd.C_drewN ?_ _) | (with_reducible refine Kd.C_drew ?_)))
            (case side6 => exact (Kd.R_reads' HO_8.out).2.1)
            (case side7 => exact GL_below HG.out (by repeat (first | (with_reducible first | exact HB.out | apply below_alloc | apply pw_below_drewN | apply below_drew1 | refine below_set ?_ GE287.out | refine below_set ?_ GE297.out) | exact HB.out)))
            rintro e w120 ⟨rfl, hb⟩
            refine ⟨_, rfl, ?_⟩
            have n0_ := Aside0.mk (Kd.R_below (by (with_reducible repeat (first | apply Kd.R_alloc | apply Kd.R_drewN | apply Kd.R_drew)); exact HO_7.out) hb)
            have n1_ := Aside0.mk (Kd.R_below (by (with_reducible repeat (first | apply Kd.R_alloc | apply Kd.R_drewN | apply Kd.R_drew)); exact HO_8.out) hb)
            have n2_ := Aside0.mk (Kd.S_below (by (with_reducible repeat (first | apply Kd.S_alloc | apply Kd.S_drewN | apply Kd.S_drew)); exact HO_288000.out) hb)
            have n3_ := Aside0.mk (Kd.S_below (by (with_reducible repeat (first | apply Kd.S_alloc | apply Kd.S_drewN | apply Kd.S_drew)); exact HO_298000.out) hb)
            have n4_ := Aside0.mk (blk_below (g := gb287) (o := .cells #[.slice Ao77 t289.length co77] 24 (0, 0)) (by (with_reducible repeat (first | refine blk_drewN ?_ _ | refine blk_drew ?_ | refine blk_alloc ?_ _)); exact BK287.out) hb)
            have n5_ := Aside0.mk (blk_below (g := gb297) (o := .cells #[.slice (some ⟨go28, 0, none⟩) y301.length co83] 24 (0, 0)) (by (with_reducible repeat (first | refine blk_drewN ?_ _ | refine blk_drew ?_ | refine blk_alloc ?_ _)); exact BK297.out) hb)
            have n6_ := Aside0.mk (below_step (by repeat (first | (with_reducible first | exact HB.out | apply below_alloc | apply pw_below_drewN | apply below_drew1 | refine below_set ?_ GE287.out | refine below_set ?_ GE297.out) | exact HB.out)) hb)
            clear HO_7
            clear HO_8
            clear HO_288000
            clear HO_298000
            clear BK287
            clear BK297
            clear HB
            have HO_7 := n0_
            have HO_8 := n1_
            have HO_288000 := n2_
            have HO_298000 := n3_
            have BK287 := n4_
            have BK297 := n5_
            have HB := n6_
            clear n0_ n1_ n2_ n3_ n4_ n5_ n6_
            (try clear hb)
            (try clear hb2)
            (try clear hk)
            (try clear hi)
            refine hK.out _ _ ⟨(blk_cell BK297.out 0).trans rfl, (blk_cell BK287.out 0).trans rfl⟩ (fun hHeld => ?_)
            clear hK K
            refine norm_ (a' := ?_) ?_ ?_
            rotate_left
            ·
             show Act.put _ (some 90) _ = _
             simp only [Act.put, List.setIfInBounds_toArray, List.set_cons_zero, List.set_cons_succ, i64_w, i32_w]
             rfl
            refine one_ (i := 17) (N := some 94) #[true, true, true, true, true, true, true, true, true, true, true, true, true, true, true, true, true, true, false, false, false] rfl rfl (one_of HT_.out (by kernel_rfl)) (by decide) (fun K hK => ?_)
            refine goes_ Tryd.func22 (by kernel_rfl) rfl #[.agg #[.slice (some ⟨go28, 0, none⟩) y301.length co83], .slice Ao118 x7_1.length co118, .slice Ao119 x8_1.length co119] (by rfl) rfl rfl (by (try simp only [List.map_toArray, List.map_cons, List.map_nil]); first | done | rfl | (simp only [List.length_drop, List.length_take]; rfl)) ?_
            with_reducible refine (tree_Text.calls _ _ y301 _ _ x7_1 _ _ x8_1 t322 _ ?side1 ?side2 ?side3 ?side4 ?side5 ?side6 ?side7 A114.out).mono ?_
            (case side1 => repeat (first | exact (Kd.S_reads' HO_298000.out).2.2 | (with_reducible refine Kd.C_alloc ?_ _) | (with_reducible refine Kd.C_drewN ?_ _) | (with_reducible refine Kd.C_drew ?_)))
            (case side2 => exact (Kd.S_reads' HO_298000.out).2.1)
            (case side3 => repeat (first | exact (Kd.R_reads' HO_7.out).2.2 | (with_reducible refine Kd.C_alloc ?_ _) | (with_reducible refine Kd.C_drewN ?_ _) | (with_reducible refine Kd.C_drew ?_)))
            (case side4 => exact (Kd.R_reads' HO_7.out).2.1)
            (case side5 => repeat (first | exact (Kd.R_reads' HO_8.out).2.2 | (with_reducible refine Kd.C_alloc ?_ _) | (with_reducible refine Kd.C_drewN ?_ _) | (with_reducible refine Kd.C_drew ?_)))
            (case side6 => exact (Kd.R_reads' HO_8.out).2.1)
            (case side7 => exact GL_below HG.out (by repeat (first | (with_reducible first | exact HB.out | apply below_alloc | apply pw_below_drewN | apply below_drew1 | refine below_set ?_ GE287.out | refine below_set ?_ GE297.out) | exact HB.out)))
            rintro e w121 ⟨rfl, hb⟩
            refine ⟨_, rfl, ?_⟩
            have n0_ := Aside0.mk (Kd.R_below (by (with_reducible repeat (first | apply Kd.R_alloc | apply Kd.R_drewN | apply Kd.R_drew)); exact HO_7.out) hb)
            have n1_ := Aside0.mk (Kd.R_below (by (with_reducible repeat (first | apply Kd.R_alloc | apply Kd.R_drewN | apply Kd.R_drew)); exact HO_8.out) hb)
            have n2_ := Aside0.mk (Kd.S_below (by (with_reducible repeat (first | apply Kd.S_alloc | apply Kd.S_drewN | apply Kd.S_drew)); exact HO_288000.out) hb)
            have n3_ := Aside0.mk (Kd.S_below (by (with_reducible repeat (first | apply Kd.S_alloc | apply Kd.S_drewN | apply Kd.S_drew)); exact HO_298000.out) hb)
            have n4_ := Aside0.mk (blk_below (g := gb287) (o := .cells #[.slice Ao77 t289.length co77] 24 (0, 0)) (by (with_reducible repeat (first | refine blk_drewN ?_ _ | refine blk_drew ?_ | refine blk_alloc ?_ _)); exact BK287.out) hb)
            have n5_ := Aside0.mk (blk_below (g := gb297) (o := .cells #[.slice (some ⟨go28, 0, none⟩) y301.length co83] 24 (0, 0)) (by (with_reducible repeat (first | refine blk_drewN ?_ _ | refine blk_drew ?_ | refine blk_alloc ?_ _)); exact BK297.out) hb)
            have n6_ := Aside0.mk (below_step (by repeat (first | (with_reducible first | exact HB.out | apply below_alloc | apply pw_below_drewN | apply below_drew1 | refine below_set ?_ GE287.out | refine below_set ?_ GE297.out) | exact HB.out)) hb)
            clear HO_7
            clear HO_8
            clear HO_288000
            clear HO_298000
            clear BK287
            clear BK297
            clear HB
            have HO_7 := n0_
            have HO_8 := n1_
            have HO_288000 := n2_
            have HO_298000 := n3_
            have BK287 := n4_
            have BK297 := n5_
            have HB := n6_
            clear n0_ n1_ n2_ n3_ n4_ n5_ n6_
            (try clear hb)
            (try clear hb2)
            (try clear hk)
            (try clear hi)
            refine hK.out _ _ ⟨(blk_cell BK297.out 0).trans rfl, (blk_cell BK287.out 0).trans rfl⟩ (fun hHeld => ?_)
            clear hK K
            refine norm_ (a' := ?_) ?_ ?_
            rotate_left
            ·
             show Act.put _ (some 94) _ = _
             simp only [Act.put, List.setIfInBounds_toArray, List.set_cons_zero, List.set_cons_succ, i64_w, i32_w]
             rfl
            refine pure_ (i := 18) (N := some 95) (v := ?_) (a' := ?_) #[true, true, true, true, true, true, true, true, true, true, true, true, true, true, true, true, true, true, true, false, false] rfl rfl (any_of HT_.out (by kernel_rfl)) (fun _ _ _ h => h) (Or.inl ⟨by rfl, ?_⟩) ?_ ?_
            rotate_left
            ·
             intro w'
             go_simp
             with_reducible rfl
            rotate_left
            ·
             simp only [Act.put, List.setIfInBounds_toArray, List.set_cons_zero, List.set_cons_succ, i64_w, i32_w]
             rfl
            refine pure_ (i := 19) (N := some 96) (v := ?_) (a' := ?_) #[true, true, true, true, true, true, true, true, true, true, true, true, true, true, true, true, true, true, true, true, false] rfl rfl (any_of HT_.out (by kernel_rfl)) (fun _ _ _ h => h) (Or.inl ⟨by rfl, ?_⟩) ?_ ?_
            rotate_left
            ·
             intro w'
             go_simp
             with_reducible rfl
            rotate_left
            ·
             simp only [Act.put, List.setIfInBounds_toArray, List.set_cons_zero, List.set_cons_succ, i64_w, i32_w]
             rfl
            refine pure_ (i := 20) (N := some 4) (v := ?_) (a' := ?_) #[true, true, true, true, true, true, true, true, true, true, true, true, true, true, true, true, true, true, true, true, true] rfl rfl (any_of HT_.out (by kernel_rfl)) (fun _ _ _ h => h) (Or.inl ⟨by rfl, ?_⟩) ?_ ?_
            rotate_left
            ·
             intro w'
             go_simp
             with_reducible rfl
            rotate_left
            ·
             simp only [Act.put, List.setIfInBounds_toArray, List.set_cons_zero, List.set_cons_succ, i64_w, i32_w]
             rfl
            refine done_ (done_of HT_.out (by kernel_rfl)) ?_
            try go_wp2
            go_ret
            exact ⟨by first | rfl | (simp [errW_none, errW_some] <;> rfl) | (simp [*, errW_none, errW_some] <;> rfl), by repeat (first | (with_reducible first | exact HB.out | apply below_alloc | apply pw_below_drewN | apply below_drew1 | refine below_set ?_ GE287.out | refine below_set ?_ GE297.out) | exact HB.out)⟩
          ·
           rw [if_neg c107] at H
           have c107b0 : (t319 == 0) = false := beq_eq_false_iff_ne.mpr c107
           have c107b1 : (t319 != 0) = true := bne_iff_ne.mpr c107
           obtain rfl := Option.some.inj H
           try go_wp2
           have n0_ := Aside0.mk (Kd.R_drew HO_7.out)
           have n1_ := Aside0.mk (Kd.R_drew HO_8.out)
           have n2_ := Aside0.mk (Kd.S_drew HO_288000.out)
           have n3_ := Aside0.mk (Kd.S_drew HO_298000.out)
           have n4_ := Aside0.mk (blk_drew BK287.out)
           have n5_ := Aside0.mk (blk_drew BK297.out)
           have n6_ := Aside0.mk (below_drew1 HB.out)
           clear HO_7
           clear HO_8
           clear HO_288000
           clear HO_298000
           clear BK287
           clear BK297
           clear HB
           have HO_7 := n0_
           have HO_8 := n1_
           have HO_288000 := n2_
           have HO_298000 := n3_
           have BK287 := n4_
           have BK297 := n5_
           have HB := n6_
           clear n0_ n1_ n2_ n3_ n4_ n5_ n6_
           refine start_ (n := 21) (S := fun w' => w'.cell? ⟨gb297, 0, none⟩ = some (.slice (some ⟨go28, 0, none⟩) y301.length co83)) (ds := []) #[false, false, false, false, false, false, false, false, false, false, false, false, false, false, false, false, false, false, false, false, false] (by kernel_rfl) rfl rfl ((blk_cell BK297.out 0).trans rfl) (fun hHeld => ?_); refine with_tabW gramaryelaw22_TreeApart.tab18 gramaryelaw22_TreeApart.bits18 (fun HT_ HW_ => ?_)
           generalize wr.drew = w122 at HO_7 HO_8 HO_288000 HO_298000 BK287 BK297 HB hHeld ⊢
           refine take_ (i := 0) (N := some 77) (v := ?_) (a' := ?_) #[true, false, false, false, false, false, false, false, false, false, false, false, false, false, false, false, false, false, false, false, false] rfl rfl (take_ofW HT_.out HW_.out (by kernel_rfl)) (fun _ _ _ h => h) (Or.inl ⟨by rfl, ?_⟩) hHeld ?_ ?_
           rotate_left
           ·
            intro w' s0
            go_simp
            with_reducible rfl
           rotate_left
           ·
            simp only [Act.put, List.setIfInBounds_toArray, List.set_cons_zero, List.set_cons_succ, i64_w, i32_w]
            rfl
           refine one_ (i := 1) (N := some 78) #[true, true, false, false, false, false, false, false, false, false, false, false, false, false, false, false, false, false, false, false, false] rfl rfl (one_of HT_.out (by kernel_rfl)) (by decide) (fun K hK => ?_)
           refine goes_ Tryd.func11 (by kernel_rfl) rfl #[.agg #[.slice (some ⟨go28, 0, none⟩) y301.length co83]] (by rfl) rfl rfl (by (try simp only [List.map_toArray, List.map_cons, List.map_nil]); first | done | rfl | (simp only [List.length_drop, List.length_take]; rfl)) ?_
           with_reducible refine (tree_May.calls _ _ y301 t319 _ ?side1 ?side2 ?side3 A106.out).mono ?_
           (case side1 => repeat (first | exact (Kd.S_reads' HO_298000.out).2.2 | (with_reducible refine Kd.C_alloc ?_ _) | (with_reducible refine Kd.C_drewN ?_ _) | (with_reducible refine Kd.C_drew ?_)))
           (case side2 => exact (Kd.S_reads' HO_298000.out).2.1)
           (case side3 => exact GL_below HG.out (by repeat (first | (with_reducible first | exact HB.out | apply below_alloc | apply pw_below_drewN | apply below_drew1 | refine below_set ?_ GE287.out | refine below_set ?_ GE297.out) | exact HB.out)))
           rintro e w123 ⟨rfl, hb⟩
           refine ⟨_, rfl, ?_⟩
           have n0_ := Aside0.mk (Kd.R_below (by (with_reducible repeat (first | apply Kd.R_alloc | apply Kd.R_drewN | apply Kd.R_drew)); exact HO_7.out) hb)
           have n1_ := Aside0.mk (Kd.R_below (by (with_reducible repeat (first | apply Kd.R_alloc | apply Kd.R_drewN | apply Kd.R_drew)); exact HO_8.out) hb)
           have n2_ := Aside0.mk (Kd.S_below (by (with_reducible repeat (first | apply Kd.S_alloc | apply Kd.S_drewN | apply Kd.S_drew)); exact HO_288000.out) hb)
           have n3_ := Aside0.mk (Kd.S_below (by (with_reducible repeat (first | apply Kd.S_alloc | apply Kd.S_drewN | apply Kd.S_drew)); exact HO_298000.out) hb)
           have n4_ := Aside0.mk (blk_below (g := gb287) (o := .cells #[.slice Ao77 t289.length co77] 24 (0, 0)) (by (with_reducible repeat (first | refine blk_drewN ?_ _ | refine blk_drew ?_ | refine blk_alloc ?_ _)); exact BK287.out) hb)
           have n5_ := Aside0.mk (blk_below (g := gb297) (o := .cells #[.slice (some ⟨go28, 0, none⟩) y301.length co83] 24 (0, 0)) (by (with_reducible repeat (first | refine blk_drewN ?_ _ | refine blk_drew ?_ | refine blk_alloc ?_ _)); exact BK297.out) hb)
           have n6_ := Aside0.mk (below_step (by repeat (first | (with_reducible first | exact HB.out | apply below_alloc | apply pw_below_drewN | apply below_drew1 | refine below_set ?_ GE287.out | refine below_set ?_ GE297.out) | exact HB.out)) hb)
           clear HO_7
           clear HO_8
           clear HO_288000
           clear HO_298000
           clear BK287
           clear BK297
           clear HB
           have HO_7 := n0_
           have HO_8 := n1_
           have HO_288000 := n2_
           have HO_298000 := n3_
           have BK287 := n4_
           have BK297 := n5_
           have HB := n6_
           clear n0_ n1_ n2_ n3_ n4_ n5_ n6_
           (try clear hb)
           (try clear hb2)
           (try clear hk)
           (try clear hi)
           refine hK.out _ _ ((blk_cell BK297.out 0).trans rfl) (fun hHeld => ?_)
           clear hK K
           refine norm_ (a' := ?_) ?_ ?_
           rotate_left
           ·
            show Act.put _ (some 78) _ = _
            simp only [Act.put, List.setIfInBounds_toArray, List.set_cons_zero, List.set_cons_succ, i64_w, i32_w]
            rfl
           refine pure_ (i := 2) (N := some 79) (v := ?_) (a' := ?_) #[true, true, true, false, false, false, false, false, false, false, false, false, false, false, false, false, false, false, false, false, false] rfl rfl (any_of HT_.out (by kernel_rfl)) (fun _ _ _ h => h) (Or.inl ⟨by rfl, ?_⟩) ?_ ?_
           rotate_left
           ·
            intro w'
            go_simp
            with_reducible rfl
           rotate_left
           ·
            simp only [Act.put, List.setIfInBounds_toArray, List.set_cons_zero, List.set_cons_succ, i64_w, i32_w]
            rfl
           refine pure_ (i := 3) (N := some 80) (v := ?_) (a' := ?_) #[true, true, true, true, false, false, false, false, false, false, false, false, false, false, false, false, false, false, false, false, false] rfl rfl (any_of HT_.out (by kernel_rfl)) (fun _ _ _ h => h) (Or.inl ⟨by rfl, ?_⟩) ?_ ?_
           rotate_left
           ·
            intro w'
            go_simp
            with_reducible rfl
           rotate_left
           ·
            simp only [Act.put, List.setIfInBounds_toArray, List.set_cons_zero, List.set_cons_succ, i64_w, i32_w]
            rfl
           refine pure_ (i := 4) (N := some 81) (v := undef) (a' := ?_) #[true, true, true, true, true, false, false, false, false, false, false, false, false, false, false, false, false, false, false, false, false] rfl rfl (any_of HT_.out (by kernel_rfl)) (fun _ _ _ h => h) (Or.inr ⟨by rfl, rfl⟩) ?_ ?_
           rotate_left
           ·
            simp only [Act.put, List.setIfInBounds_toArray, List.set_cons_zero, List.set_cons_succ, i64_w, i32_w]
            rfl
           refine pure_ (i := 5) (N := some 82) (v := undef) (a' := ?_) #[true, true, true, true, true, true, false, false, false, false, false, false, false, false, false, false, false, false, false, false, false] rfl rfl (any_of HT_.out (by kernel_rfl)) (fun _ _ _ h => h) (Or.inr ⟨by rfl, rfl⟩) ?_ ?_
           rotate_left
           ·
            simp only [Act.put, List.setIfInBounds_toArray, List.set_cons_zero, List.set_cons_succ, i64_w, i32_w]
            rfl
           refine pure_ (i := 6) (N := some 83) (v := undef) (a' := ?_) #[true, true, true, true, true, true, true, false, false, false, false, false, false, false, false, false, false, false, false, false, false] rfl rfl (any_of HT_.out (by kernel_rfl)) (fun _ _ _ h => h) (Or.inr ⟨by rfl, rfl⟩) ?_ ?_
           rotate_left
           ·
            simp only [Act.put, List.setIfInBounds_toArray, List.set_cons_zero, List.set_cons_succ, i64_w, i32_w]
            rfl
           refine pure_ (i := 7) (N := some 84) (v := undef) (a' := ?_) #[true, true, true, true, true, true, true, true, false, false, false, false, false, false, false, false, false, false, false, false, false] rfl rfl (any_of HT_.out (by kernel_rfl)) (fun _ _ _ h => h) (Or.inr ⟨by rfl, rfl⟩) ?_ ?_
           rotate_left
           ·
            simp only [Act.put, List.setIfInBounds_toArray, List.set_cons_zero, List.set_cons_succ, i64_w, i32_w]
            rfl
           refine pure_ (i := 8) (N := some 85) (v := ?_) (a' := ?_) #[true, true, true, true, true, true, true, true, true, false, false, false, false, false, false, false, false, false, false, false, false] rfl rfl (any_of HT_.out (by kernel_rfl)) (fun _ _ _ h => h) (Or.inl ⟨by rfl, ?_⟩) ?_ ?_
           rotate_left
           ·
            intro w'
            go_simp
            with_reducible rfl
           rotate_left
           ·
            simp only [Act.put, List.setIfInBounds_toArray, List.set_cons_zero, List.set_cons_succ, i64_w, i32_w]
            rfl
           refine pure_ (i := 9) (N := some 86) (v := ?_) (a' := ?_) #[true, true, true, true, true, true, true, true, true, true, false, false, false, false, false, false, false, false, false, false, false] rfl rfl (any_of HT_.out (by kernel_rfl)) (fun _ _ _ h => h) (Or.inl ⟨by rfl, ?_⟩) ?_ ?_
           rotate_left
           ·
            intro w'
            go_simp
            with_reducible rfl
           rotate_left
           ·
            simp only [Act.put, List.setIfInBounds_toArray, List.set_cons_zero, List.set_cons_succ, i64_w, i32_w]
            rfl
           refine pure_ (i := 10) (N := some 87) (v := undef) (a' := ?_) #[true, true, true, true, true, true, true, true, true, true, true, false, false, false, false, false, false, false, false, false, false] rfl rfl (any_of HT_.out (by kernel_rfl)) (fun _ _ _ h => h) (Or.inr ⟨by rfl, rfl⟩) ?_ ?_
           rotate_left
           ·
            simp only [Act.put, List.setIfInBounds_toArray, List.set_cons_zero, List.set_cons_succ, i64_w, i32_w]
            rfl
           refine pure_ (i := 11) (N := some 88) (v := undef) (a' := ?_) #[true, true, true, true, true, true, true, true, true, true, true, true, false, false, false, false, false, false, false, false, false] rfl rfl (any_of HT_.out (by kernel_rfl)) (fun _ _ _ h => h) (Or.inr ⟨by rfl, rfl⟩) ?_ ?_
           rotate_left
           ·
            simp only [Act.put, List.setIfInBounds_toArray, List.set_cons_zero, List.set_cons_succ, i64_w, i32_w]
            rfl
           refine pure_ (i := 12) (N := some 89) (v := undef) (a' := ?_) #[true, true, true, true, true, true, true, true, true, true, true, true, true, false, false, false, false, false, false, false, false] rfl rfl (any_of HT_.out (by kernel_rfl)) (fun _ _ _ h => h) (Or.inr ⟨by rfl, rfl⟩) ?_ ?_
           rotate_left
           ·
            simp only [Act.put, List.setIfInBounds_toArray, List.set_cons_zero, List.set_cons_succ, i64_w, i32_w]
            rfl
           refine pure_ (i := 13) (N := some 90) (v := undef) (a' := ?_) #[true, true, true, true, true, true, true, true, true, true, true, true, true, true, false, false, false, false, false, false, false] rfl rfl (any_of HT_.out (by kernel_rfl)) (fun _ _ _ h => h) (Or.inr ⟨by rfl, rfl⟩) ?_ ?_
           rotate_left
           ·
            simp only [Act.put, List.setIfInBounds_toArray, List.set_cons_zero, List.set_cons_succ, i64_w, i32_w]
            rfl
           refine pure_ (i := 14) (N := some 91) (v := undef) (a' := ?_) #[true, true, true, true, true, true, true, true, true, true, true, true, true, true, true, false, false, false, false, false, false] rfl rfl (any_of HT_.out (by kernel_rfl)) (fun _ _ _ h => h) (Or.inr ⟨by rfl, rfl⟩) ?_ ?_
           rotate_left
           ·
            simp only [Act.put, List.setIfInBounds_toArray, List.set_cons_zero, List.set_cons_succ, i64_w, i32_w]
            rfl
           refine pure_ (i := 15) (N := some 92) (v := undef) (a' := ?_) #[true, true, true, true, true, true, true, true, true, true, true, true, true, true, true, true, false, false, false, false, false] rfl rfl (any_of HT_.out (by kernel_rfl)) (fun _ _ _ h => h) (Or.inr ⟨by rfl, rfl⟩) ?_ ?_
           rotate_left
           ·
            simp only [Act.put, List.setIfInBounds_toArray, List.set_cons_zero, List.set_cons_succ, i64_w, i32_w]
            rfl
           refine pure_ (i := 16) (N := some 93) (v := undef) (a' := ?_) #[true, true, true, true, true, true, true, true, true, true, true, true, true, true, true, true, true, false, false, false, false] rfl rfl (any_of HT_.out (by kernel_rfl)) (fun _ _ _ h => h) (Or.inr ⟨by rfl, rfl⟩) ?_ ?_
           rotate_left
           ·
            simp only [Act.put, List.setIfInBounds_toArray, List.set_cons_zero, List.set_cons_succ, i64_w, i32_w]
            rfl
           refine pure_ (i := 17) (N := some 94) (v := undef) (a' := ?_) #[true, true, true, true, true, true, true, true, true, true, true, true, true, true, true, true, true, true, false, false, false] rfl rfl (any_of HT_.out (by kernel_rfl)) (fun _ _ _ h => h) (Or.inr ⟨by rfl, rfl⟩) ?_ ?_
           rotate_left
           ·
            simp only [Act.put, List.setIfInBounds_toArray, List.set_cons_zero, List.set_cons_succ, i64_w, i32_w]
            rfl
           refine pure_ (i := 18) (N := some 95) (v := undef) (a' := ?_) #[true, true, true, true, true, true, true, true, true, true, true, true, true, true, true, true, true, true, true, false, false] rfl rfl (any_of HT_.out (by kernel_rfl)) (fun _ _ _ h => h) (Or.inr ⟨by rfl, rfl⟩) ?_ ?_
           rotate_left
           ·
            simp only [Act.put, List.setIfInBounds_toArray, List.set_cons_zero, List.set_cons_succ, i64_w, i32_w]
            rfl
           refine pure_ (i := 19) (N := some 96) (v := ?_) (a' := ?_) #[true, true, true, true, true, true, true, true, true, true, true, true, true, true, true, true, true, true, true, true, false] rfl rfl (any_of HT_.out (by kernel_rfl)) (fun _ _ _ h => h) (Or.inl ⟨by rfl, ?_⟩) ?_ ?_
           rotate_left
           ·
            intro w'
            go_simp
            with_reducible rfl
           rotate_left
           ·
            simp only [Act.put, List.setIfInBounds_toArray, List.set_cons_zero, List.set_cons_succ, i64_w, i32_w]
            rfl
           refine pure_ (i := 20) (N := some 4) (v := ?_) (a' := ?_) #[true, true, true, true, true, true, true, true, true, true, true, true, true, true, true, true, true, true, true, true, true] rfl rfl (any_of HT_.out (by kernel_rfl)) (fun _ _ _ h => h) (Or.inl ⟨by rfl, ?_⟩) ?_ ?_
           rotate_left
           ·
            intro w'
            go_simp
            with_reducible rfl
           rotate_left
           ·
            simp only [Act.put, List.setIfInBounds_toArray, List.set_cons_zero, List.set_cons_succ, i64_w, i32_w]
            rfl
           refine done_ (done_of HT_.out (by kernel_rfl)) ?_
           try go_wp2
           go_ret
           exact ⟨by first | rfl | (simp [errW_none, errW_some] <;> rfl) | (simp [*, errW_none, errW_some] <;> rfl), by repeat (first | (with_reducible first | exact HB.out | apply below_alloc | apply pw_below_drewN | apply below_drew1 | refine below_set ?_ GE287.out | refine below_set ?_ GE297.out) | exact HB.out)⟩
    ·
     rw [if_neg c11] at H
     exact absurd H (by simp)
   ·
    rw [if_neg c10] at H
    exact absurd H (by simp)
  ·
   rw [if_neg c7] at H
   have c7b0 : (t292 == 0) = false := beq_eq_false_iff_ne.mpr c7
   have c7b1 : (t292 != 0) = true := bne_iff_ne.mpr c7
   replace H := Option.bind_eq_some_iff.mp H
   obtain ⟨t293, A1240, H⟩ := H
   replace H : (some (!t293)) = some r := H
   have A124 := Aside0.mk A1240
   clear A1240
   obtain rfl := Option.some.inj H
   go_enter Tryd.func5, Tryd.ntmps5
   go_wp2_with (first | ((with_reducible refine gate_dst (N := 2) rfl ?_); refine box_event ?hg (N := 2) ?hd (cs := #[.slice A0_0 l0_0.length c0_0]) (t := 24) ?hr ?_; (case hd => rfl); (case hg => rfl); (case hr => first | (go_simp; done) | (go_simp; rfl)); intro gb287 hg w125 hbox hb; have n0_ := Aside0.mk (below_step (by repeat (first | (with_reducible first | exact HB.out | apply below_alloc | apply pw_below_drewN | apply below_drew1) | exact HB.out)) hb); have n1_ := Aside0.mk (hbox); have n2_ := Aside0.mk ((by rw [hg]; exact (below_size (by repeat (first | (with_reducible first | exact HB.out | apply below_alloc | apply pw_below_drewN | apply below_drew1) | exact HB.out))) : w.heap.size ≤ gb287)); have n3_ := Aside0.mk ((by rw [hg]; exact (below_size (by repeat (first | (with_reducible first | exact HB.out | apply below_alloc | apply pw_below_drewN | apply below_drew1) | exact HB.out))) : w.heap.size ≤ gb287)); clear HB; have HB := n0_; have BK287 := n1_; have GW287 := n2_; have GE287 := n3_; clear n0_ n1_ n2_ n3_; clear hb hbox hg) | ((with_reducible refine gate_callee (f := 16) rfl ?_); refine goesL_ (some 10) rfl rfl Tryd.func16 (by kernel_rfl) rfl #[] rfl (by (try simp only [List.map_toArray, List.map_cons, List.map_nil]); first | done | rfl | (simp only [List.length_drop, List.length_take]; rfl)) ?_; (with_reducible refine (gramaryelaw22_works.calls  true _ ?side1 A3.out).mono ?_); (case side1 => exact GL_below HG.out (by repeat (first | (with_reducible first | exact HB.out | apply below_alloc | apply pw_below_drewN | apply below_drew1 | refine below_set ?_ GE287.out) | exact HB.out))); rintro e w126 ⟨rfl, hb⟩; refine ⟨_, rfl, ?_⟩; have n0_ := Aside0.mk (blk_below (g := gb287) (o := .cells #[.slice A0_0 l0_0.length c0_0] 24 (0, 0)) (by (with_reducible repeat (first | refine blk_drewN ?_ _ | refine blk_drew ?_ | refine blk_alloc ?_ _)); exact BK287.out) hb); have n1_ := Aside0.mk (below_step (by repeat (first | (with_reducible first | exact HB.out | apply below_alloc | apply pw_below_drewN | apply below_drew1 | refine below_set ?_ GE287.out) | exact HB.out)) hb); clear BK287; clear HB; have BK287 := n0_; have HB := n1_; clear n0_ n1_; (try clear hb); (try clear hb2); (try clear hk); (try clear hi); have hcz127_0 : w126.cell? ⟨gb287, 0, none⟩ = some (.slice A0_0 l0_0.length c0_0) := (blk_cell BK287.out 0).trans rfl; have hfz127_0 := blk_frozen BK287.out 0) | ((with_reducible refine gate_callee (f := 10) rfl ?_); refine goesL_ (some 13) rfl rfl Tryd.func10 (by kernel_rfl) rfl #[.agg #[.slice A0_0 l0_0.length c0_0]] rfl (by (try simp only [List.map_toArray, List.map_cons, List.map_nil]); first | done | rfl | (simp only [List.length_drop, List.length_take]; rfl)) ?_; (with_reducible refine (gramaryelaw22_Few.calls k _ _ l0_0 t289 _ ?side1 ?side2 A5.out).mono ?_); (case side1 => repeat (first | exact (Kd.C_below HR0_0.out HB.out) | (with_reducible refine Kd.C_alloc ?_ _) | (with_reducible refine Kd.C_drewN ?_ _) | (with_reducible refine Kd.C_drew ?_))); (case side2 => exact HC0_0.out); rintro e w128 ⟨v290, rfl, ho0, hb⟩; refine ⟨_, rfl, ?_⟩; have n0_ := Aside0.mk (Kd.S_lower ho0 (below_size (by repeat (first | (with_reducible first | exact HB.out | apply below_alloc | apply pw_below_drewN | apply below_drew1 | refine below_set ?_ GE287.out) | exact HB.out)))); have n1_ := Aside0.mk (blk_below (g := gb287) (o := .cells #[.slice A0_0 l0_0.length c0_0] 24 (0, 0)) (by (with_reducible repeat (first | refine blk_drewN ?_ _ | refine blk_drew ?_ | refine blk_alloc ?_ _)); exact BK287.out) hb); have n2_ := Aside0.mk (below_step (by repeat (first | (with_reducible first | exact HB.out | apply below_alloc | apply pw_below_drewN | apply below_drew1 | refine below_set ?_ GE287.out) | exact HB.out)) hb); clear BK287; clear HB; have HO291 := n0_; have BK287 := n1_; have HB := n2_; clear n0_ n1_ n2_; (try clear hb); (try clear hb2); (try clear hk); (try clear hi); (try clear ho0); obtain ⟨Ao129, co129, eo129⟩ := Kd.S_slice HO291.out; subst eo129; have hcz130_0 : w128.cell? ⟨gb287, 0, none⟩ = some (.slice A0_0 l0_0.length c0_0) := (blk_cell BK287.out 0).trans rfl; have hfz130_0 := blk_frozen BK287.out 0) | ((with_reducible refine gate_callee (f := 11) rfl ?_); refine goesL_ (some 15) rfl rfl Tryd.func11 (by kernel_rfl) rfl #[.agg #[.slice Ao129 t289.length co129]] rfl (by (try simp only [List.map_toArray, List.map_cons, List.map_nil]); first | done | rfl | (simp only [List.length_drop, List.length_take]; rfl)) ?_; (with_reducible refine (tree_May.calls _ _ t289 t292 _ ?side1 ?side2 ?side3 A6.out).mono ?_); (case side1 => refine (Kd.S_reads' (e := 33) (base := w.heap.size) (ok := fun k_ => True) (n := t289.length) (c := co129) ?_).2.2; exact (by (with_reducible repeat (first | apply Kd.S_alloc | apply Kd.S_drewN | apply Kd.S_drew)); exact (Kd.S_mono (Kd.S_far (p := ⟨gb287, 0, none⟩) (Kd.S_types HO291.out BK287.out (by decide)) (fun _ hk => hk.2) (.slice Ao129 t289.length co129)) (fun _ h_ => h_.1)))); (case side2 => exact (Kd.S_reads' HO291.out).2.1); (case side3 => exact GL_below HG.out (by repeat (first | (with_reducible first | exact HB.out | apply below_alloc | apply pw_below_drewN | apply below_drew1 | refine below_set ?_ GE287.out) | exact HB.out))); rintro e w131 ⟨rfl, hb⟩; refine ⟨_, rfl, ?_⟩; have n0_ := Aside0.mk (Kd.S_below (by (with_reducible repeat (first | apply Kd.S_alloc | apply Kd.S_drewN | apply Kd.S_drew)); exact (Kd.S_mono (Kd.S_far (p := ⟨gb287, 0, none⟩) (Kd.S_types HO291.out BK287.out (by decide)) (fun _ hk => hk.2) (.slice Ao129 t289.length co129)) (fun _ h_ => h_.1))) hb); have n1_ := Aside0.mk (blk_below (g := gb287) (o := .cells #[.slice Ao129 t289.length co129] 24 (0, 0)) (by (with_reducible repeat (first | refine blk_drewN ?_ _ | refine blk_drew ?_ | refine blk_alloc ?_ _)); refine blk_put (cs := #[.slice A0_0 l0_0.length c0_0]) ?_ 0 _ rfl; (with_reducible repeat (first | refine blk_drewN ?_ _ | refine blk_drew ?_ | refine blk_alloc ?_ _)); exact BK287.out) hb); have n2_ := Aside0.mk (below_step (by repeat (first | (with_reducible first | exact HB.out | apply below_alloc | apply pw_below_drewN | apply below_drew1 | refine below_set ?_ GE287.out) | exact HB.out)) hb); clear HO291; clear BK287; clear HB; have HO291 := n0_; have BK287 := n1_; have HB := n2_; clear n0_ n1_ n2_; (try clear hb); (try clear hb2); (try clear hk); (try clear hi); have hcz132_0 : w131.cell? ⟨gb287, 0, none⟩ = some (.slice Ao129 t289.length co129) := (blk_cell BK287.out 0).trans rfl; have hfz132_0 := blk_frozen BK287.out 0) | ((with_reducible refine gate_callee (f := 24) rfl ?_); refine goesL_ (some 19) rfl rfl Tryd.func24 (by kernel_rfl) rfl #[.agg #[.slice Ao129 t289.length co129], .agg #[.slice Ao129 t289.length co129]] rfl (by (try simp only [List.map_toArray, List.map_cons, List.map_nil]); first | done | rfl | (simp only [List.length_drop, List.length_take]; rfl)) ?_; (with_reducible refine (tree_Same.calls _ _ t289 _ _ t289 t293 _ ?side1 ?side2 ?side3 ?side4 ?side5 A124.out).mono ?_); (case side1 => repeat (first | exact (Kd.S_reads' HO291.out).2.2 | (with_reducible refine Kd.C_alloc ?_ _) | (with_reducible refine Kd.C_drewN ?_ _) | (with_reducible refine Kd.C_drew ?_))); (case side2 => exact (Kd.S_reads' HO291.out).2.1); (case side3 => repeat (first | exact (Kd.S_reads' HO291.out).2.2 | (with_reducible refine Kd.C_alloc ?_ _) | (with_reducible refine Kd.C_drewN ?_ _) | (with_reducible refine Kd.C_drew ?_))); (case side4 => exact (Kd.S_reads' HO291.out).2.1); (case side5 => exact GL_below HG.out (by repeat (first | (with_reducible first | exact HB.out | apply below_alloc | apply pw_below_drewN | apply below_drew1 | refine below_set ?_ GE287.out) | exact HB.out))); rintro e w133 ⟨rfl, hb⟩; refine ⟨_, rfl, ?_⟩; have n0_ := Aside0.mk (Kd.S_below (by (with_reducible repeat (first | apply Kd.S_alloc | apply Kd.S_drewN | apply Kd.S_drew)); exact HO291.out) hb); have n1_ := Aside0.mk (blk_below (g := gb287) (o := .cells #[.slice Ao129 t289.length co129] 24 (0, 0)) (by (with_reducible repeat (first | refine blk_drewN ?_ _ | refine blk_drew ?_ | refine blk_alloc ?_ _)); exact BK287.out) hb); have n2_ := Aside0.mk (below_step (by repeat (first | (with_reducible first | exact HB.out | apply below_alloc | apply pw_below_drewN | apply below_drew1 | refine below_set ?_ GE287.out) | exact HB.out)) hb); clear HO291; clear BK287; clear HB; have HO291 := n0_; have BK287 := n1_; have HB := n2_; clear n0_ n1_ n2_; (try clear hb); (try clear hb2); (try clear hk); (try clear hi)))
   go_ret
   exact ⟨by first | rfl | (simp [errW_none, errW_some] <;> rfl) | (simp [*, errW_none, errW_some] <;> rfl), by repeat (first | (with_reducible first | exact HB.out | apply below_alloc | apply pw_below_drewN | apply below_drew1 | refine below_set ?_ GE287.out) | exact HB.out)⟩
 ·
  replace c4 := Bool.eq_false_iff.mpr c4
  subst c4
  have H1 : (some false) = some r := by rw [if_neg (show ¬ (false = true) by decide)] at H; exact H
  clear H
  have H := H1
  clear H1
  obtain rfl := Option.some.inj H
  go_enter Tryd.func5, Tryd.ntmps5
  go_wp2_with (first | ((with_reducible refine gate_dst (N := 2) rfl ?_); refine box_event ?hg (N := 2) ?hd (cs := #[.slice A0_0 l0_0.length c0_0]) (t := 24) ?hr ?_; (case hd => rfl); (case hg => rfl); (case hr => first | (go_simp; done) | (go_simp; rfl)); intro gb287 hg w134 hbox hb; have n0_ := Aside0.mk (below_step (by repeat (first | (with_reducible first | exact HB.out | apply below_alloc | apply pw_below_drewN | apply below_drew1) | exact HB.out)) hb); have n1_ := Aside0.mk (hbox); have n2_ := Aside0.mk ((by rw [hg]; exact (below_size (by repeat (first | (with_reducible first | exact HB.out | apply below_alloc | apply pw_below_drewN | apply below_drew1) | exact HB.out))) : w.heap.size ≤ gb287)); have n3_ := Aside0.mk ((by rw [hg]; exact (below_size (by repeat (first | (with_reducible first | exact HB.out | apply below_alloc | apply pw_below_drewN | apply below_drew1) | exact HB.out))) : w.heap.size ≤ gb287)); clear HB; have HB := n0_; have BK287 := n1_; have GW287 := n2_; have GE287 := n3_; clear n0_ n1_ n2_ n3_; clear hb hbox hg) | ((with_reducible refine gate_callee (f := 16) rfl ?_); refine goesL_ (some 10) rfl rfl Tryd.func16 (by kernel_rfl) rfl #[] rfl (by (try simp only [List.map_toArray, List.map_cons, List.map_nil]); first | done | rfl | (simp only [List.length_drop, List.length_take]; rfl)) ?_; (with_reducible refine (gramaryelaw22_works.calls  false _ ?side1 A3.out).mono ?_); (case side1 => exact GL_below HG.out (by repeat (first | (with_reducible first | exact HB.out | apply below_alloc | apply pw_below_drewN | apply below_drew1 | refine below_set ?_ GE287.out) | exact HB.out))); rintro e w135 ⟨rfl, hb⟩; refine ⟨_, rfl, ?_⟩; have n0_ := Aside0.mk (blk_below (g := gb287) (o := .cells #[.slice A0_0 l0_0.length c0_0] 24 (0, 0)) (by (with_reducible repeat (first | refine blk_drewN ?_ _ | refine blk_drew ?_ | refine blk_alloc ?_ _)); exact BK287.out) hb); have n1_ := Aside0.mk (below_step (by repeat (first | (with_reducible first | exact HB.out | apply below_alloc | apply pw_below_drewN | apply below_drew1 | refine below_set ?_ GE287.out) | exact HB.out)) hb); clear BK287; clear HB; have BK287 := n0_; have HB := n1_; clear n0_ n1_; (try clear hb); (try clear hb2); (try clear hk); (try clear hi)))
  go_ret
  exact ⟨by first | rfl | (simp [errW_none, errW_some] <;> rfl) | (simp [*, errW_none, errW_some] <;> rfl), by repeat (first | (with_reducible first | exact HB.out | apply below_alloc | apply pw_below_drewN | apply below_drew1 | refine below_set ?_ GE287.out) | exact HB.out)⟩
end Go.Proofs.YtafbmlhgcmlmpaaDoor.PT
