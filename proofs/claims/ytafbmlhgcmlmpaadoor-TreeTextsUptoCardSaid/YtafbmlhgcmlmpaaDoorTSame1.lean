/- slices.EqualFunc at two rows of nodes; tree.Same. -/
import Derived.Test.YtafbmlhgcmlmpaaDoorTSame0
namespace Go.Proofs.YtafbmlhgcmlmpaaDoor.PT
open Go.RowKit Go.Proofs.YtafbmlhgcmlmpaaDoorW.PrintWords Go.Proofs.YtafbmlhgcmlmpaaDoorW.PrintLast Go.Proofs.YtafbmlhgcmlmpaaDoorW.PrintMore
set_option linter.unusedVariables false
set_option linter.unusedSimpArgs false
set_option maxHeartbeats 4000000 in
set_option maxRecDepth 100000 in
theorem equal_any (l m : List S33) (A B : Option Addr) (c d : Nat) (w : World) (hr : Kd.C k33 w A l.length l) (hc : l.length ≤ c) (hs : Kd.C k33 w B m.length m) (hd : m.length ≤ d) :
    Calls Tryd.prog 52 #[.slice A l.length c, .slice B m.length d, .func (.func 53) #[] #[]] w fun e w' => e = .returned (.bool (allS l m)) ∧ Below w.heap.size w w' := by
  have hu33 := Tryd.underlying33
  have HR := Aside0.mk hr
  have HS := Aside0.mk hs
  clear hr hs
  obtain ⟨b, hb⟩ : ∃ b, allS l m = b := ⟨_, rfl⟩
  rw [hb]
  have HBB := Aside0.mk hb
  clear hb
  by_cases hlen : l.length = m.length
  · have b0 : ((l.length : Int) != (m.length : Int)) = false := by simp [hlen]
    have HL := Aside0.mk hlen
    clear hlen
    go_enter Tryd.func52, Tryd.ntmps52
    go_wp2
    go_loopw [17] (fun v17 wr => ∃ (j : Nat), v17 = .int .i64 j ∧ j ≤ l.length ∧ Aside0 (allS (l.drop j) (m.drop j) = b) ∧ Aside0 (Below w.heap.size w wr)) (fun v17 _ => l.length - (intOf v17).toNat)
    case atStart => exact ⟨0, rfl, Nat.zero_le _, ⟨HBB.out⟩, ⟨Below.refl _ _⟩⟩
    case round =>
      obtain ⟨j, rfl, hj, HT, HBr⟩ := hrel
      by_cases hjl : j < l.length
      · have hjm : j < m.length := by have := HL.out; omega
        have hT := HT.out
        rw [allS_drop hjl hjm] at hT
        obtain ⟨ad, A5, c5, hA, e0, e1, e2, e3, e4, e5, l5, g5⟩ := at_T33 (Kd.C_below HR.out HBr.out) (j : Int) (by omega) (by omega)
        obtain ⟨ad', A5', c5', hA', e0', e1', e2', e3', e4', e5', l5', g5'⟩ := at_T33 (Kd.C_below HS.out HBr.out) (j : Int) (by omega) (by omega)
        subst hA
        subst hA'
        have hj64 : (j : Int) + 1 ≤ 9223372036854775807 := by have := HR.out.2.1; omega
        have hja : 0 ≤ (j : Int) := by omega
        have hjb : (j : Int) < (l.length : Int) := by omega
        have hjb' : (j : Int) < (m.length : Int) := by omega
        have hjd : decide ((j : Int) < (l.length : Int)) = true := decide_eq_true hjb
        have hjc : ((j : Int)).toNat = j := by omega
        rw [hjc] at e0 e1 e2 e3 e4 e5 e0' e1' e2' e3' e4' e5'
        generalize rd_T33 l (j : Int) = x at *
        generalize rd_T33 m (j : Int) = y at *
        have nb : ∀ o, Below wr.heap.size wr (wr.alloc o) := fun o => (Below.refl _ wr).alloc (Nat.le_refl _) o
        have f0 := fun o => pw_cell_below (nb o) e0'
        have f1 := fun o => pw_cell_below (nb o) e1'
        have f2 := fun o => pw_cell_below (nb o) e2'
        have f3 := fun o => pw_cell_below (nb o) e3'
        have f4 := fun o => pw_cell_below (nb o) e4'
        have f5 := fun o => pw_cell_below (nb o) e5'
        have L5 := Aside0.mk l5
        have G5 := Aside0.mk g5
        have L5' := Aside0.mk l5'
        have G5' := Aside0.mk g5'
        have HBW : Aside0 (∀ o o', Below wr.heap.size wr ((wr.alloc o).alloc o')) := ⟨fun o o' => ((Below.refl _ wr).alloc (Nat.le_refl _) o).alloc (by simp) o'⟩
        clear l5 g5 l5' g5' nb e0' e1' e2' e3' e4' e5' hjc
        cases he : eqS x y with
        | true =>
          have HE := Aside0.mk he
          have HT2 : Aside0 (allS (l.drop (j + 1)) (m.drop (j + 1)) = b) := ⟨by rw [he, Bool.true_and] at hT; exact hT⟩
          clear he hT HT
          go_wp2_with (go_at_call 53; go_must (refine (same1_any x y A5 A5' c5 c5' _ true (Kd.C_below G5.out (HBW.out _ _)) L5.out (Kd.C_below G5'.out (HBW.out _ _)) L5'.out HE.out).mono ?_; rintro e w3 ⟨rfl, hb3⟩; have HB3 := Aside0.mk (below_step (below_step HBr.out (HBW.out _ _)) hb3); clear hb3))
          go_roundw
          case rel => exact ⟨j + 1, by go_num, by omega, HT2, HB3⟩
          case measure => simp [intOf]; omega
        | false =>
          have HE := Aside0.mk he
          have hbf : b = false := by rw [he, Bool.false_and] at hT; exact hT.symm
          have HBF := Aside0.mk hbf
          clear he hT HT hbf
          go_wp2_with (go_at_call 53; go_must (refine (same1_any x y A5 A5' c5 c5' _ false (Kd.C_below G5.out (HBW.out _ _)) L5.out (Kd.C_below G5'.out (HBW.out _ _)) L5'.out HE.out).mono ?_; rintro e w3 ⟨rfl, hb3⟩; have HB3 := Aside0.mk (below_step (below_step HBr.out (HBW.out _ _)) hb3); clear hb3))
          go_ret
          exact ⟨by rw [HBF.out]; rfl, HB3.out⟩
      · obtain rfl : j = l.length := by omega
        have hjd : decide ((l.length : Int) < (l.length : Int)) = false := by simp
        have hbt : b = true := by
          have := HT.out
          rw [List.drop_length, HL.out, List.drop_length] at this
          exact this.symm
        have HBT := Aside0.mk hbt
        clear hbt HT
        go_wp2
        go_ret
        exact ⟨by rw [HBT.out]; rfl, HBr.out⟩
  · have b0 : ((l.length : Int) != (m.length : Int)) = true := by simp; omega
    have hbf : b = false := by rw [← HBB.out]; exact allS_len hlen
    have HBF := Aside0.mk hbf
    clear hbf hlen HBB
    go_enter Tryd.func52, Tryd.ntmps52
    go_wp2
    go_ret
    exact ⟨by rw [HBF.out]; rfl, Below.refl _ _⟩
def sameB (l m : List S33) : Bool := mayB l && (mayB m && allS l m)
def tree_Same.f (l0_0 l1_0 : List S33) : Option Bool := some (sameB l0_0 l1_0)
theorem may_f (l : List S33) (b : Bool) (h : mayB l = b) : tree_May.f l = some (if b = true then 0 else 4) := by simp [tree_May.f, h]
set_option maxHeartbeats 4000000 in
set_option maxRecDepth 100000 in
theorem tree_Same.calls (A0_0 : Option Addr) (c0_0 : Nat) (l0_0 : List S33) (A1_0 : Option Addr) (c1_0 : Nat) (l1_0 : List S33) (r : Bool) (w : World) (hr0_0 : Kd.C k33 w A0_0 l0_0.length l0_0) (hc0_0 : l0_0.length ≤ c0_0) (hr1_0 : Kd.C k33 w A1_0 l1_0.length l1_0) (hc1_0 : l1_0.length ≤ c1_0) (hG : GL w) (h : tree_Same.f l0_0 l1_0 = some r) :
    Calls Tryd.prog 24 #[.agg #[.slice A0_0 l0_0.length c0_0], .agg #[.slice A1_0 l1_0.length c1_0]] w fun e w' => e = .returned (.bool r) ∧ Below w.heap.size w w' := by
  have hu24 := Tryd.underlying24
  have HR := Aside0.mk hr0_0
  have HS := Aside0.mk hr1_0
  have HG := Aside0.mk hG
  have hrb := Option.some.inj h
  clear hr0_0 hr1_0 hG h
  obtain ⟨W, hW⟩ : ∃ W, (w.alloc (.cells #[.slice A0_0 l0_0.length c0_0] 24)).alloc (.cells #[.slice A1_0 l1_0.length c1_0] 24) = W := ⟨_, rfl⟩
  have HB0 : Aside0 (Below w.heap.size w ((w.alloc (.cells #[.slice A0_0 l0_0.length c0_0] 24)).alloc (.cells #[.slice A1_0 l1_0.length c1_0] 24))) := ⟨((Below.refl _ w).alloc (Nat.le_refl _) _).alloc (by simp) _⟩
  have HX1 : Aside0 (((w.alloc (.cells #[.slice A0_0 l0_0.length c0_0] 24)).alloc (.cells #[.slice A1_0 l1_0.length c1_0] 24)).heap[w.heap.size]? = some (.cells #[.slice A0_0 l0_0.length c0_0] 24 (0, 0))) := ⟨blk_alloc (heap_alloc_new w _) _⟩
  have HX2 : Aside0 (((w.alloc (.cells #[.slice A0_0 l0_0.length c0_0] 24)).alloc (.cells #[.slice A1_0 l1_0.length c1_0] 24)).heap[w.heap.size + 1]? = some (.cells #[.slice A1_0 l1_0.length c1_0] 24 (0, 0))) := ⟨by
    have z := heap_alloc_new (w.alloc (.cells #[.slice A0_0 l0_0.length c0_0] 24)) (.cells #[.slice A1_0 l1_0.length c1_0] 24)
    rwa [World.size_alloc] at z⟩
  clear hW W
  cases hm : mayB l0_0 with
  | false =>
    have HM := Aside0.mk (may_f _ _ hm)
    have hrf : r = false := by rw [← hrb]; simp [sameB, hm]
    subst hrf
    clear hm hrb
    go_enter Tryd.func24, Tryd.ntmps24
    go_wp2_with (go_at_call 11; go_must (refine (tree_May.calls A0_0 c0_0 l0_0 4 _ (Kd.C_below HR.out HB0.out) hc0_0 (GL_below HG.out HB0.out) HM.out).mono ?_; rintro e w1 ⟨rfl, hb1⟩; have HB1 := Aside0.mk hb1; clear hb1))
    go_ret
    exact ⟨rfl, below_step HB0.out HB1.out⟩
  | true =>
    have HM := Aside0.mk (may_f _ _ hm)
    cases hm2 : mayB l1_0 with
    | false =>
      have HM2 := Aside0.mk (may_f _ _ hm2)
      have hrf : r = false := by rw [← hrb]; simp [sameB, hm2]
      subst hrf
      clear hm hm2 hrb
      go_enter Tryd.func24, Tryd.ntmps24
      go_wp2_with fail
      refine (tree_May.calls A0_0 c0_0 l0_0 0 _ (Kd.C_below HR.out HB0.out) hc0_0 (GL_below HG.out HB0.out) HM.out).mono ?_
      rintro e w1 ⟨rfl, hb1⟩
      have HB1 := Aside0.mk (below_step HB0.out hb1)
      have hx2 := blk_cell ((hb1.block _ (blk_lt HX2.out)).trans HX2.out) 0
      simp only [List.getElem?_toArray, List.getElem?_cons_zero] at hx2
      clear hb1
      go_wp2_with fail
      refine (tree_May.calls A1_0 c1_0 l1_0 4 _ (Kd.C_below HS.out HB1.out) hc1_0 (GL_below HG.out HB1.out) HM2.out).mono ?_
      rintro e w2 ⟨rfl, hb2⟩
      have HB2 := Aside0.mk (below_step HB1.out hb2)
      clear hb2
      go_wp2
      go_ret
      exact ⟨rfl, HB2.out⟩
    | true =>
      have HM2 := Aside0.mk (may_f _ _ hm2)
      have hrf : allS l0_0 l1_0 = r := by rw [← hrb]; simp [sameB, hm, hm2]
      have HRF := Aside0.mk hrf
      clear hm hm2 hrb hrf
      go_enter Tryd.func24, Tryd.ntmps24
      go_wp2_with fail
      refine (tree_May.calls A0_0 c0_0 l0_0 0 _ (Kd.C_below HR.out HB0.out) hc0_0 (GL_below HG.out HB0.out) HM.out).mono ?_
      rintro e w1 ⟨rfl, hb1⟩
      have HB1 := Aside0.mk (below_step HB0.out hb1)
      have HY1 := Aside0.mk ((hb1.block _ (blk_lt HX1.out)).trans HX1.out)
      have HY2 := Aside0.mk ((hb1.block _ (blk_lt HX2.out)).trans HX2.out)
      have hx2 := blk_cell HY2.out 0
      simp only [List.getElem?_toArray, List.getElem?_cons_zero] at hx2
      clear hb1
      go_wp2_with fail
      refine (tree_May.calls A1_0 c1_0 l1_0 0 _ (Kd.C_below HS.out HB1.out) hc1_0 (GL_below HG.out HB1.out) HM2.out).mono ?_
      rintro e w2 ⟨rfl, hb2⟩
      have HB2 := Aside0.mk (below_step HB1.out hb2)
      have hy1 := blk_cell ((hb2.block _ (blk_lt HY1.out)).trans HY1.out) 0
      have hy2 := blk_cell ((hb2.block _ (blk_lt HY2.out)).trans HY2.out) 0
      simp only [List.getElem?_toArray, List.getElem?_cons_zero] at hy1 hy2
      clear hb2 hx2
      go_wp2_with fail
      refine (equal_any l0_0 l1_0 A0_0 A1_0 c0_0 c1_0 _ (Kd.C_below HR.out HB2.out) hc0_0 (Kd.C_below HS.out HB2.out) hc1_0).mono ?_
      rintro e w3 ⟨rfl, hb3⟩
      have HB3 := Aside0.mk (below_step HB2.out hb3)
      clear hb3
      go_wp2
      go_ret
      exact ⟨by rw [HRF.out]; rfl, HB3.out⟩
end Go.Proofs.YtafbmlhgcmlmpaaDoor.PT
