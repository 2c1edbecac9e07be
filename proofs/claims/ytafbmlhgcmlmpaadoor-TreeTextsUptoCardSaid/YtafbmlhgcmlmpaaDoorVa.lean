/- Chapter 22, plainly: names, right, below, may. -/
import Derived.Test.YtafbmlhgcmlmpaaDoorPTx5
import Derived.Test.YtafbmlhgcmlmpaaDoorTIter
namespace Go.Proofs.YtafbmlhgcmlmpaaDoor.PT
open Go.RowKit Go.Proofs.YtafbmlhgcmlmpaaDoorW.PrintWords Go.Proofs.YtafbmlhgcmlmpaaDoorW.PrintLast Go.Proofs.YtafbmlhgcmlmpaaDoorW.PrintMore
set_option linter.unusedVariables false
set_option linter.unusedSimpArgs false
theorem wrapS (j : Nat) (h : j < 4611686018427387904) : wrap64 ((j : Int) + 1) = ((j + 1 : Nat) : Int) := by unfold wrap64; omega
theorem ev_eq {α : Type} {g : Nat → Option α} {r s : α} (h : Ev g r) (e : r = s) : Ev g s := e ▸ h
theorem ev_succ {α : Type} {g f : Nat → Option α} {r : α} (h : Ev f r) (e : ∀ k, f k = some r → g (k + 1) = some r) : Ev g r := by
  obtain ⟨K, hK⟩ := h
  refine ⟨K + 1, fun k hk => ?_⟩
  obtain ⟨m, rfl⟩ : ∃ m, k = m + 1 := ⟨k - 1, by omega⟩
  exact e m (hK m (by omega))
theorem ev_here {α : Type} {g : Nat → Option α} {r : α} (e : ∀ k, g (k + 1) = some r) : Ev g r := ev_succ (f := fun _ => some r) (Ev.now r) (fun k _ => e k)
def letS (s : ByteArray) : Nat → Nat → Bool
  | 0, _ => true
  | m + 1, j => (if j = 0 then smallB (bt s 0) else okB s j) && letS s m (j + 1)
theorem letters_ev (s : ByteArray) (hs : s.size ≤ 20) : ∀ (m j : Nat), j + m = s.size → Ev (fun k => gramaryeref02_letters.l0 k s 97 (j : Int)) (letS s m j)
  | 0, j, h => ev_here (fun k => by
      simp only [gramaryeref02_letters.l0]
      rw [if_neg (by omega)]
      rfl)
  | m + 1, j, h => by
    have ih := letters_ev s hs m (j + 1) (by omega)
    have h0 : (0 : Int) ≤ (j : Int) := by omega
    have h1 : (j : Int) < (s.size : Int) := by omega
    by_cases hc : 97 ≤ bt s j ∧ bt s j ≤ 122
    · have hsm : smallB (bt s j) = true := by simp [smallB, hc]
      refine ev_succ (ev_eq ih ?_) (fun k hk => ?_)
      · show _ = ((if j = 0 then smallB (bt s 0) else okB s j) && letS s m (j + 1))
        by_cases hj : j = 0
        · subst hj
          simp at hsm
          simp [hsm]
        · simp [hj, okB, hsm]
      · simp only [gramaryeref02_letters.l0]
        rw [if_pos h1, if_pos h0, if_pos (by omega), if_pos (by omega), wrapS j (by omega)]
        exact hk
    · have hsm : smallB (bt s j) = false := by simp only [smallB, Bool.and_eq_false_iff, decide_eq_false_iff_not]; omega
      have key : ∀ (X : Option Bool), (if bt s j ≥ 97 then (if bt s j ≤ ((97 + 25) % 256) then X else (if (j : Int) = 0 then some false else (if bt s j = 95 then X else (if bt s j < 48 then some false else (if bt s j > 57 then some false else X))))) else (if (j : Int) = 0 then some false else (if bt s j = 95 then X else (if bt s j < 48 then some false else (if bt s j > 57 then some false else X))))) = if (j : Int) = 0 then some false else (if bt s j = 95 then X else (if bt s j < 48 then some false else (if bt s j > 57 then some false else X))) := by
        intro X
        split
        · rw [if_neg (by omega)]
        · rfl
      by_cases hj : j = 0
      · refine ev_here (fun k => ?_)
        simp only [gramaryeref02_letters.l0]
        rw [if_pos h1, if_pos h0, key, if_pos (by omega)]
        subst hj
        simp at hsm
        simp [letS, hsm]
      · by_cases hr : bt s j = 95 ∨ (48 ≤ bt s j ∧ bt s j ≤ 57)
        · refine ev_succ (ev_eq ih ?_) (fun k hk => ?_)
          · show _ = ((if j = 0 then smallB (bt s 0) else okB s j) && letS s m (j + 1))
            have : restB (bt s j) = true := by simp [restB, hr]
            simp [hj, okB, this]
          · simp only [gramaryeref02_letters.l0]
            rw [if_pos h1, if_pos h0, key, if_neg (by omega), wrapS j (by omega)]
            by_cases h95 : bt s j = 95
            · rw [if_pos h95]; exact hk
            · rw [if_neg h95, if_neg (by omega), if_neg (by omega)]; exact hk
        · refine ev_here (fun k => ?_)
          simp only [gramaryeref02_letters.l0]
          rw [if_pos h1, if_pos h0, key, if_neg (by omega), if_neg (by omega)]
          have : restB (bt s j) = false := by simp only [restB, Bool.or_eq_false_iff, Bool.and_eq_false_iff, decide_eq_false_iff_not]; omega
          have e : letS s (m + 1) j = false := by simp [letS, hj, okB, hsm, this]
          rw [e]
          split
          · rfl
          · rw [if_pos (by omega)]
theorem letS_all (s : ByteArray) : ∀ (m j : Nat), letS s m (j + 1) = (List.range m).all fun i => okB s (j + 1 + i)
  | 0, j => rfl
  | m + 1, j => by
    simp only [letS]
    rw [letS_all s m (j + 1), if_neg (by omega), List.range_succ_eq_map]
    simp only [List.all_cons, List.all_map]
    congr 1
    congr 1
    funext i
    simp only [Function.comp]
    congr 1
    omega
theorem letS_spelt (s : ByteArray) (h0 : 0 < s.size) (hs : s.size ≤ 20) : letS s s.size 0 = speltB s := by
  obtain ⟨m, hm⟩ : ∃ m, s.size = m + 1 := ⟨s.size - 1, by omega⟩
  unfold speltB
  rw [hm]
  simp only [letS, if_pos]
  rw [letS_all s m 0, List.range_succ_eq_map]
  have e1 : decide (m + 1 ≤ 20) = true := decide_eq_true (by omega)
  simp only [List.all_cons, List.all_map, e1, Nat.zero_lt_succ, decide_true, Bool.true_and]
  cases hb : smallB (bt s 0)
  · simp
  · have : okB s 0 = true := by simp [okB, hb]
    simp only [this, Bool.true_and]
    congr 1
    funext i
    simp only [Function.comp]
    congr 1
    omega
theorem word_ev (s : ByteArray) : Ev (fun k => gramaryeref02_Word.f k s) (speltB s) := by
  have key : Ev (fun k => gramaryeref02_letters.f k s 97) (speltB s) := by
    by_cases h0 : (s.size : Int) < 1
    · refine ev_here (fun k => ?_)
      simp only [gramaryeref02_letters.f, gramaryeref02_letters.j0]
      rw [if_pos h0, if_pos trivial, speltB_none (.inl (by omega))]
    · by_cases h1 : (s.size : Int) > 20
      · refine ev_here (fun k => ?_)
        simp only [gramaryeref02_letters.f, gramaryeref02_letters.j0]
        rw [if_neg h0, if_pos (by simp [h1]), speltB_none (.inr (.inl (by omega)))]
      · have := letters_ev s (by omega) s.size 0 (by omega)
        rw [letS_spelt s (by omega) (by omega)] at this
        refine ev_succ this (fun k hk => ?_)
        simp only [gramaryeref02_letters.f, gramaryeref02_letters.j0]
        rw [if_neg h0, if_neg (by simp [h1])]
        exact hk
  exact Ev.bind key (Ev.now _)
theorem kw_f (s : ByteArray) : gramaryeref02_Keyword.f s = some (kwB s) := by
  unfold gramaryeref02_Keyword.f kwB eqB kwGrammar kwLook kwSync kwToken
  have e1 : (⟨#[103, 114, 97, 109, 109, 97, 114]⟩ : ByteArray).toList = [103, 114, 97, 109, 109, 97, 114] := by decide +kernel
  have e2 : (⟨#[108, 111, 111, 107]⟩ : ByteArray).toList = [108, 111, 111, 107] := by decide +kernel
  have e3 : (⟨#[115, 121, 110, 99]⟩ : ByteArray).toList = [115, 121, 110, 99] := by decide +kernel
  have e4 : (⟨#[116, 111, 107, 101, 110]⟩ : ByteArray).toList = [116, 111, 107, 101, 110] := by decide +kernel
  rw [e1, e2, e3, e4]
  generalize s.toList = t
  by_cases h1 : t = [103, 114, 97, 109, 109, 97, 114]
  · simp [h1]
  · by_cases h2 : t = [108, 111, 111, 107]
    · simp [h2]
    · by_cases h3 : t = [115, 121, 110, 99]
      · simp [h3]
      · by_cases h4 : t = [116, 111, 107, 101, 110]
        · simp [h4]
        · have b1 := beq_eq_false_iff_ne.mpr (Ne.symm h1)
          have b2 := beq_eq_false_iff_ne.mpr (Ne.symm h2)
          have b3 := beq_eq_false_iff_ne.mpr (Ne.symm h3)
          have b4 := beq_eq_false_iff_ne.mpr (Ne.symm h4)
          have b5 := beq_eq_false_iff_ne.mpr h4
          rw [if_neg h1, if_neg h2, if_neg h3, b1, b2, b3, b4, b5]
          rfl
theorem name_ev (s : ByteArray) : Ev (fun k => gramaryeref02_Name.f k s) (nameB s) := by
  refine Ev.bind (word_ev s) ?_
  unfold nameB
  cases speltB s with
  | false => exact Ev.now _
  | true =>
    refine Ev.congr (f := fun _ => some (!kwB s)) (fun k => ?_) (Ev.now _)
    rw [if_pos rfl, kw_f]
    rfl
def In64 (x : S33) : Prop := (-9223372036854775808 ≤ x.f2 ∧ x.f2 ≤ 9223372036854775807) ∧ (-9223372036854775808 ≤ x.f3 ∧ x.f3 ≤ 9223372036854775807)
theorem right_out (x : S33) (h : ¬ (1 ≤ x.f0 ∧ x.f0 ≤ 5 ∧ 0 ≤ x.f2 ∧ x.f2 ≤ x.f3)) : rightB x = false := by
  unfold rightB tree_right.f
  by_cases h2 : x.f2 < 0
  · rw [if_pos h2]
    rfl
  · rw [if_neg h2]
    by_cases h3 : x.f2 > x.f3
    · rw [if_pos h3]
      rfl
    · rw [if_neg h3]
      have J : ∀ b, tree_right.j0 1 b x.f0 x.f1 x.f2 x.f3 x.f4 x.f5 = some false := by
        intro b
        simp only [tree_right.j0]
        rw [if_neg (show ¬ x.f0 = 1 by omega), if_neg (show ¬ x.f0 = 2 by omega), if_neg (show ¬ x.f0 = 3 by omega), if_neg (show ¬ x.f0 = 4 by omega), if_neg (show ¬ x.f0 = 5 by omega), ite_self]
      simp only [name_Name.f, Option.bind_some, J, ite_self, Option.getD_some]
theorem right_ev (x : S33) (hx : In64 x) : Ev (fun k => gramaryeref22_right.f k x.f0 x.f1 x.f2 x.f3 x.f4 x.f5) (rightB x) := by
  have hR := right_f x
  obtain ⟨⟨a1, a2⟩, a3, a4⟩ := hx
  have hT : Ev (fun k => gramaryeref22_right.j0 k true x.f0 x.f1 x.f2 x.f3 x.f4 x.f5) false := ev_here (fun k => rfl)
  by_cases hc : 1 ≤ x.f0 ∧ x.f0 ≤ 5 ∧ 0 ≤ x.f2 ∧ x.f2 ≤ x.f3
  · have hj : ∀ b r, tree_right.j0 1 b x.f0 x.f1 x.f2 x.f3 x.f4 x.f5 = some r → Ev (fun k => gramaryeref22_right.j0 k b x.f0 x.f1 x.f2 x.f3 x.f4 x.f5) r := by
      intro b r hr
      refine ev_here (fun k => ?_)
      rw [← hr]
      have w1 : (wrap64 (x.f3 - 1) == x.f2) = (wrap64 (x.f3 - x.f2) == 1) := by
        rw [Bool.eq_iff_iff, beq_iff_eq, beq_iff_eq]
        unfold wrap64
        omega
      simp only [gramaryeref22_right.j0, tree_right.j0]
      rw [w1]
      split
      · rfl
      · split
        · split
          · split <;> rfl
          · rfl
        · split
          · by_cases h : x.f1 > 0
            · rw [if_pos h, if_pos (by omega)]
            · rw [if_neg h, if_neg (by omega)]
          · split
            · split
              · split <;> rfl
              · rfl
            · split
              · by_cases h : x.f1 > 0
                · rw [if_pos h, if_pos (by omega)]
                · rw [if_neg h, if_neg (by omega)]
              · rw [if_pos (show x.f0 = 5 by omega)]
    unfold tree_right.f at hR
    rw [if_neg (by omega), if_neg (by omega)] at hR
    have h1 : ¬ x.f0 < 1 := by omega
    have h2 : ¬ x.f0 > 5 := by omega
    have h3 : ¬ x.f2 < 0 := by omega
    have h4 : ¬ x.f3 < x.f2 := by omega
    have red : ∀ k, gramaryeref22_right.f k x.f0 x.f1 x.f2 x.f3 x.f4 x.f5 = _ := fun k => by
      unfold gramaryeref22_right.f
      rw [if_neg h1, if_neg h2, if_neg h3, if_neg h4]
    refine Ev.congr red ?_
    by_cases hl : x.f4.toList = []
    · rw [if_pos hl] at hR
      refine Ev.congr (fun k => if_pos hl) ?_
      by_cases h0 : x.f0 = 1
      · rw [if_pos h0] at hR
        exact Ev.congr (fun k => if_pos h0) (hj _ _ hR)
      · rw [if_neg h0] at hR
        exact Ev.congr (fun k => if_neg h0) (hj _ _ hR)
    · rw [if_neg hl] at hR
      refine Ev.congr (fun k => if_neg hl) ?_
      refine Ev.bind (name_ev x.f4) ?_
      unfold name_Name.f at hR
      rw [Option.bind_some] at hR
      cases hn : nameB x.f4 with
      | true =>
        rw [hn, if_pos rfl] at hR
        refine Ev.congr (fun k => if_pos rfl) ?_
        by_cases h0 : x.f0 = 1
        · rw [if_pos h0] at hR
          exact Ev.congr (fun k => if_pos h0) (hj _ _ hR)
        · rw [if_neg h0] at hR
          exact Ev.congr (fun k => if_neg h0) (hj _ _ hR)
      | false =>
        rw [hn, if_neg (by simp)] at hR
        refine Ev.congr (fun k => if_neg (by simp)) ?_
        exact hj _ _ hR
  · rw [right_out x hc]
    by_cases h1 : x.f0 < 1
    · exact Ev.congr (fun k => if_pos h1) hT
    · refine Ev.congr (fun k => if_neg h1) ?_
      by_cases h2 : x.f0 > 5
      · exact Ev.congr (fun k => if_pos h2) hT
      · refine Ev.congr (fun k => if_neg h2) ?_
        by_cases h3 : x.f2 < 0
        · exact Ev.congr (fun k => if_pos h3) hT
        · refine Ev.congr (fun k => if_neg h3) ?_
          exact Ev.congr (fun k => if_pos (by omega)) hT
end Go.Proofs.YtafbmlhgcmlmpaaDoor.PT
