/- The contracts of slices.EqualFunc at two rows of nodes, and of tree.Same. -/
import Derived.Test.YtafbmlhgcmlmpaaDoorPUx1
import Derived.Test.YtafbmlhgcmlmpaaDoorTMay
namespace Go.Proofs.YtafbmlhgcmlmpaaDoor.PT
open Go.Proofs.YtafbmlhgcmlmpaaDoor Go.RowKit Go.Proofs.YtafbmlhgcmlmpaaDoorW.PrintWords Go.Proofs.YtafbmlhgcmlmpaaDoorW.PrintLast Go.Proofs.YtafbmlhgcmlmpaaDoorW.PrintMore
set_option linter.unusedVariables false
set_option linter.unusedSimpArgs false
def eqS (x y : S33) : Bool := x.f0 == y.f0 && (x.f1 == y.f1 && (x.f2 == y.f2 && (x.f3 == y.f3 && (x.f4.toList == y.f4.toList && x.f5 == y.f5))))
def allS : List S33 → List S33 → Bool
  | [], [] => true
  | x :: xs, y :: ys => eqS x y && allS xs ys
  | _, _ => false
theorem allS_len {l m : List S33} (h : l.length ≠ m.length) : allS l m = false := by
  induction l generalizing m with
  | nil => cases m with
    | nil => exact absurd rfl h
    | cons y ys => rfl
  | cons x xs ih => cases m with
    | nil => rfl
    | cons y ys =>
      simp only [allS]
      rw [ih (by simpa using h), Bool.and_false]
theorem allS_drop {l m : List S33} {j : Nat} (hl : j < l.length) (hm : j < m.length) : allS (l.drop j) (m.drop j) = (eqS (rd_T33 l (j : Int)) (rd_T33 m (j : Int)) && allS (l.drop (j + 1)) (m.drop (j + 1))) := by
  rw [List.drop_eq_getElem_cons hl, List.drop_eq_getElem_cons hm]
  simp [allS, rd_T33, hl, hm]
theorem eq_loop (l m : List Int) (hl : l.length = m.length) (hb : l.length ≤ 9223372036854775807) : ∀ (n j : Nat), j + n = l.length → ∃ k, PU.slices_Equal_int_int.l0 k l m (l.length : Int) (j : Int) = some (l.drop j == m.drop j)
  | 0, j, h => ⟨1, by
      simp only [PU.slices_Equal_int_int.l0]
      rw [if_neg (by omega), List.drop_eq_nil_of_le (by omega), List.drop_eq_nil_of_le (by omega)]
      rfl⟩
  | n + 1, j, h => by
    have hj : j < l.length := by omega
    have hj2 : j < m.length := by omega
    have e1 : rd l (j : Int) = l[j] := by simp [rd, hj]
    have e2 : rd m (j : Int) = m[j] := by simp [rd, hj2]
    rw [List.drop_eq_getElem_cons hj, List.drop_eq_getElem_cons hj2, List.cons_beq_cons]
    by_cases he : l[j] = m[j]
    · obtain ⟨k, hk⟩ := eq_loop l m hl hb n (j + 1) (by omega)
      refine ⟨k + 1, ?_⟩
      simp only [PU.slices_Equal_int_int.l0]
      have hw : wrap64 ((j : Int) + 1) = ((j + 1 : Nat) : Int) := by unfold wrap64; omega
      rw [if_pos (by omega), if_pos (by omega), if_pos (by omega), if_pos (by omega), e1, e2, if_pos he, hw, hk, beq_iff_eq.2 he, Bool.true_and]
    · refine ⟨1, ?_⟩
      simp only [PU.slices_Equal_int_int.l0]
      rw [if_pos (by omega), if_pos (by omega), if_pos (by omega), if_pos (by omega), e1, e2, if_neg he, beq_eq_false_iff_ne.2 he, Bool.false_and]
theorem eq_ev (l m : List Int) (hb : l.length ≤ 9223372036854775807) : ∃ k, PU.slices_Equal_int_int.f k l m = some (l == m) := by
  by_cases hl : l.length = m.length
  · obtain ⟨k, hk⟩ := eq_loop l m hl hb l.length 0 (by omega)
    refine ⟨k, ?_⟩
    unfold PU.slices_Equal_int_int.f
    rw [if_pos (by omega)]
    simpa using hk
  · refine ⟨0, ?_⟩
    unfold PU.slices_Equal_int_int.f
    rw [if_neg (by omega)]
    have : l ≠ m := fun e => hl (by rw [e])
    simp [this]
theorem same1_ev (x y : S33) (hb : x.f5.length ≤ 9223372036854775807) : ∃ k, PU.tree_Same_1.f k x.f0 x.f1 x.f2 x.f3 x.f4 x.f5 y.f0 y.f1 y.f2 y.f3 y.f4 y.f5 = some (eqS x y) := by
  obtain ⟨k, hk⟩ := eq_ev x.f5 y.f5 hb
  refine ⟨k, ?_⟩
  unfold PU.tree_Same_1.f eqS
  rw [hk]
  by_cases h0 : x.f0 = y.f0
  · by_cases h1 : x.f1 = y.f1
    · by_cases h2 : x.f2 = y.f2
      · by_cases h3 : x.f3 = y.f3
        · by_cases h4 : x.f4.toList = y.f4.toList
          · simp [h0, h1, h2, h3, h4]
          · simp [h0, h1, h2, h3, h4]
        · simp [h0, h1, h2, h3]
      · simp [h0, h1, h2]
    · simp [h0, h1]
  · simp [h0]
theorem same1_any (x y : S33) (A B : Option Addr) (c d : Nat) (w : World) (b : Bool) (hr : Kd.C (Kd.int .i64) w A x.f5.length x.f5) (hc : x.f5.length ≤ c) (hs : Kd.C (Kd.int .i64) w B y.f5.length y.f5) (hd : y.f5.length ≤ d) (he : eqS x y = b) :
    Calls Tryd.prog 53 #[.agg #[.int .i64 x.f0, .int .i64 x.f1, .int .i64 x.f2, .int .i64 x.f3, .string x.f4, .slice A x.f5.length c], .agg #[.int .i64 y.f0, .int .i64 y.f1, .int .i64 y.f2, .int .i64 y.f3, .string y.f4, .slice B y.f5.length d]] w fun e w' => e = .returned (.bool b) ∧ Below w.heap.size w w' := by
  obtain ⟨k, hk⟩ := same1_ev x y hr.2.1
  rw [he] at hk
  exact PU.tree_Same_1.calls k _ _ _ _ _ A c x.f5 _ _ _ _ _ B d y.f5 b w hr hc hs hd hk
end Go.Proofs.YtafbmlhgcmlmpaaDoor.PT
