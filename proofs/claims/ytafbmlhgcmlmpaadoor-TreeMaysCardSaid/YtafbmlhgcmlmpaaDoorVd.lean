/- Chapter 22, plainly: the loops of TreeMays. -/
import Derived.Test.YtafbmlhgcmlmpaaDoorVc
import Derived.Test.YtafbmlhgcmlmpaaDoorPTx6
import Derived.Test.YtafbmlhgcmlmpaaDoorPTx7
namespace Go.Proofs.YtafbmlhgcmlmpaaDoor.PT
open Go.RowKit Go.Proofs.YtafbmlhgcmlmpaaDoorW.PrintWords Go.Proofs.YtafbmlhgcmlmpaaDoorW.PrintLast Go.Proofs.YtafbmlhgcmlmpaaDoorW.PrintMore
set_option linter.unusedVariables false
set_option linter.unusedSimpArgs false

theorem rd_at {l : List S33} {j : Nat} (h : j < l.length) : rd_T33 l (j : Int) = l[j] := by simp [rd_T33, h]
def cutS (x : S33) : S33 := ⟨x.f0, x.f1, x.f2, x.f3, x.f4, x.f5.take 300⟩
def fewL (l : List S33) : List S33 := (l.take 300).map cutS
theorem cut_mn (x : S33) : x.f5.take (mn (x.f5.length : Int) 300 : Int).toNat = x.f5.take 300 := by
  unfold mn
  split
  · rfl
  · rw [List.take_of_length_le (by omega), List.take_of_length_le (by omega)]
theorem few_loop (l : List S33) : ∀ (m j : Nat) (acc : List S33), j + m = min l.length 300 → acc.length = j → Ev (fun k => gramaryelaw22_Few.l0 k (j : Int) l acc) (acc ++ ((l.drop j).take m).map cutS)
  | 0, j, acc, h, ha => ev_here (fun k => by
      simp only [gramaryelaw22_Few.l0, List.take_zero, List.map_nil, List.append_nil]
      by_cases hj : (j : Int) < (l.length : Int)
      · rw [if_pos hj, if_neg (by omega)]
      · rw [if_neg hj])
  | m + 1, j, acc, h, ha => by
    have hj : j < l.length := by omega
    have ih := few_loop l m (j + 1) (acc ++ [cutS l[j]]) (by omega) (by simp [ha])
    have e : acc ++ ((l.drop j).take (m + 1)).map cutS = acc ++ [cutS l[j]] ++ ((l.drop (j + 1)).take m).map cutS := by
      rw [List.drop_eq_getElem_cons hj, List.take_succ_cons, List.map_cons, List.append_assoc]
      rfl
    rw [e]
    refine ev_succ ih (fun k hk => ?_)
    simp only [gramaryelaw22_Few.l0]
    rw [rd_at hj]
    have h0 : (0 : Int) ≤ mn (l[j].f5.length : Int) 300 := by unfold mn; split <;> omega
    have h1 : mn (l[j].f5.length : Int) 300 ≤ (l[j].f5.length : Int) := by unfold mn; split <;> omega
    have hi : gramaryebase_Ints.f (l[j].f5.take 300) = some (l[j].f5.take 300) := by
      unfold gramaryebase_Ints.f
      have : (l[j].f5.take 300).length ≤ 300 := by rw [List.length_take]; omega
      simp only [Option.bind_some, List.length_nil, Nat.zero_add, List.nil_append]
      rw [if_pos (by omega)]
    rw [if_pos (by omega), if_pos (by omega), if_pos (by omega), if_pos h0, if_pos h1, cut_mn, hi, Option.bind_some, if_pos (by omega), wrapS j (by omega)]
    exact hk
theorem few_ev (l : List S33) : Ev (fun k => gramaryelaw22_Few.f k l) (fewL l) := by
  have h := few_loop l (min l.length 300) 0 [] (by omega) rfl
  refine ev_eq h ?_
  rw [List.drop_zero, List.nil_append]
  unfold fewL
  congr 1
  by_cases hl : l.length ≤ 300
  · rw [List.take_of_length_le (by omega), List.take_of_length_le hl]
  · rw [show min l.length 300 = 300 from by omega]
theorem few_few (l : List S33) : fewL (fewL l) = fewL l := by
  unfold fewL
  rw [← List.map_take, List.take_take, List.map_map]
  have : cutS ∘ cutS = cutS := by
    funext x
    simp [cutS, List.take_take]
  rw [this]
  rfl
theorem few_le (l : List S33) : (fewL l).length ≤ 300 := by simp [fewL]; omega
theorem few_kids (l : List S33) : ∀ x ∈ fewL l, x.f5.length ≤ 300 := by
  intro x hx
  obtain ⟨y, _, rfl⟩ := List.mem_map.1 hx
  simp [cutS]
  omega
theorem few_in (l : List S33) (h : ∀ x ∈ l, In64 x) : ∀ x ∈ fewL l, In64 x := by
  intro x hx
  obtain ⟨y, hy, rfl⟩ := List.mem_map.1 hx
  exact h y (List.mem_of_mem_take hy)
theorem same_loop (l : List Int) (hl : l.length ≤ 1000000) : ∀ (m j : Nat), j + m = l.length → Ev (fun k => gramaryebase_SameInts.l0 k l l (j : Int)) true
  | 0, j, h => ev_here (fun k => by simp only [gramaryebase_SameInts.l0]; rw [if_neg (by omega)])
  | m + 1, j, h => by
    refine ev_succ (same_loop l hl m (j + 1) (by omega)) (fun k hk => ?_)
    simp only [gramaryebase_SameInts.l0]
    rw [if_pos (by omega), if_pos (by omega), if_pos (by omega), if_pos trivial, wrapS j (by omega)]
    exact hk
theorem same_ev (l : List Int) (hl : l.length ≤ 1000000) : Ev (fun k => gramaryebase_SameInts.f k l l) true := by
  refine Ev.congr (fun k => if_pos rfl) (same_loop l hl l.length 0 (by omega))
theorem wordL_yes (x : S33) (xs : List S33) (h : x.f0 = 2) : wordL (x :: xs) = x.f1 :: wordL xs := by simp [wordL, h]
theorem wordL_no (x : S33) (xs : List S33) (h : ¬ x.f0 = 2) : wordL (x :: xs) = wordL xs := by simp [wordL, h]
theorem placesL_yes (x : S33) (xs : List S33) (h : x.f0 = 2 ∨ x.f0 = 3) : placesL (x :: xs) = spanL x.f2 x.f3 ++ placesL xs := by simp only [placesL, List.flatMap_cons]; rw [if_pos h]
theorem placesL_no (x : S33) (xs : List S33) (h : ¬ (x.f0 = 2 ∨ x.f0 = 3)) : placesL (x :: xs) = placesL xs := by simp only [placesL, List.flatMap_cons]; rw [if_neg h]; rfl
theorem word_loop (l : List S33) (hl : l.length ≤ 1000000) : ∀ (m j : Nat) (acc : List Int), j + m = l.length → acc.length ≤ j → Ev (fun k => gramaryeref22_Word.l0 k acc (j : Int) l) (acc ++ wordL (l.drop j))
  | 0, j, acc, h, ha => ev_here (fun k => by
      simp only [gramaryeref22_Word.l0]
      rw [if_neg (by omega), List.drop_eq_nil_of_le (by omega)]
      simp [wordL])
  | m + 1, j, acc, h, ha => by
    have hj : j < l.length := by omega
    rw [List.drop_eq_getElem_cons hj]
    by_cases h2 : l[j].f0 = 2
    · have e : acc ++ wordL (l[j] :: l.drop (j + 1)) = (acc ++ [l[j].f1]) ++ wordL (l.drop (j + 1)) := by rw [wordL_yes _ _ h2, List.append_assoc]; rfl
      rw [e]
      refine ev_succ (word_loop l hl m (j + 1) _ (by omega) (by simp; omega)) (fun k hk => ?_)
      simp only [gramaryeref22_Word.l0]
      rw [rd_at hj, if_pos (by omega), if_pos (by omega), if_pos h2, if_pos (by omega), wrapS j (by omega)]
      exact hk
    · have e : acc ++ wordL (l[j] :: l.drop (j + 1)) = acc ++ wordL (l.drop (j + 1)) := by rw [wordL_no _ _ h2]
      rw [e]
      refine ev_succ (word_loop l hl m (j + 1) _ (by omega) (by omega)) (fun k hk => ?_)
      simp only [gramaryeref22_Word.l0]
      rw [rd_at hj, if_pos (by omega), if_pos (by omega), if_neg h2, wrapS j (by omega)]
      exact hk
theorem refword_ev (l : List S33) (hl : l.length ≤ 1000000) : Ev (fun k => gramaryeref22_Word.f k l) (wordL l) := by
  have h := word_loop l hl l.length 0 [] (by omega) (by simp)
  exact ev_eq h (by simp)
theorem long_loop (l : List S33) (hl : l.length ≤ 1000000) : ∀ (m j : Nat), j + m = l.length → ∃ b, Ev (fun k => gramaryelaw22_long.l0 k (j : Int) l) b ∧ (b = false → ∀ x ∈ l.drop j, x.f3 ≤ 1000)
  | 0, j, h => ⟨false, ev_here (fun k => by simp only [gramaryelaw22_long.l0]; rw [if_neg (by omega)]), fun _ x hx => by rw [List.drop_eq_nil_of_le (by omega)] at hx; cases hx⟩
  | m + 1, j, h => by
    have hj : j < l.length := by omega
    obtain ⟨b, hb, hx⟩ := long_loop l hl m (j + 1) (by omega)
    by_cases h1 : wrap64 (l[j].f3 - l[j].f2) > 1000
    · refine ⟨true, ev_here (fun k => ?_), fun z => by cases z⟩
      simp only [gramaryelaw22_long.l0]
      rw [rd_at hj, if_pos (by omega), if_pos (by omega), if_pos h1]
    · by_cases h2 : l[j].f3 > 1000
      · refine ⟨true, ev_here (fun k => ?_), fun z => by cases z⟩
        simp only [gramaryelaw22_long.l0]
        rw [rd_at hj, if_pos (by omega), if_pos (by omega), if_neg h1, if_pos h2]
      · refine ⟨b, ev_succ hb (fun k hk => ?_), fun z x hxm => ?_⟩
        · simp only [gramaryelaw22_long.l0]
          rw [rd_at hj, if_pos (by omega), if_pos (by omega), if_neg h1, if_neg h2, wrapS j (by omega)]
          exact hk
        · rw [List.drop_eq_getElem_cons hj] at hxm
          rcases List.mem_cons.1 hxm with rfl | hxm
          · omega
          · exact hx z x hxm
theorem long_ev (l : List S33) (hl : l.length ≤ 1000000) : ∃ b, Ev (fun k => gramaryelaw22_long.f k l) b ∧ (b = false → ∀ x ∈ l, x.f3 ≤ 1000) := by
  have := long_loop l hl l.length 0 (by omega)
  rwa [List.drop_zero] at this
theorem places_in (l : List S33) (j : Nat) (x : S33) (acc : List Int) (v : List Int) : ∀ (m : Nat) (acc : List Int) (p : Int), p + m = x.f3 → 0 ≤ p → x.f3 ≤ 1000 → acc.length + m ≤ 1000 →
    Ev (fun k => gramaryeref22_Places.l0 k 100000 (acc ++ spanL p x.f3) (wrap64 ((j : Int) + 1)) l) v → Ev (fun k => gramaryeref22_Places.l1 k 100000 acc (j : Int) p l x.f0 x.f1 x.f2 x.f3 x.f4 x.f5) v
  | 0, acc, p, h, h0, h1, h2, hv => by
    obtain rfl : p = x.f3 := by omega
    rw [spanL_nil, List.append_nil] at hv
    refine ev_succ hv (fun k hk => ?_)
    simp only [gramaryeref22_Places.l1]
    rw [if_neg (by omega)]
    exact hk
  | m + 1, acc, p, h, h0, h1, h2, hv => by
    have e : acc ++ spanL p x.f3 = (acc ++ [p]) ++ spanL (p + 1) x.f3 := by
      rw [List.append_assoc, ← spanL_app p (p + 1) x.f3 (by omega) (by omega), spanL_snoc (Int.le_refl _), spanL_nil]
      rfl
    rw [e] at hv
    refine ev_succ (places_in l j x acc v m (acc ++ [p]) (p + 1) (by omega) (by omega) h1 (by simp; omega) hv) (fun k hk => ?_)
    simp only [gramaryeref22_Places.l1]
    rw [if_pos (by omega), if_pos (by omega), if_pos (by omega), show wrap64 (p + 1) = p + 1 from by unfold wrap64; omega]
    exact hk
theorem places_loop (l : List S33) (hl : l.length ≤ 1000000) (hs : ∀ x ∈ l, 0 ≤ x.f2 ∧ x.f2 ≤ x.f3 ∧ x.f3 ≤ 1000) : ∀ (m j : Nat) (acc : List Int), j + m = l.length → acc.length + (placesL (l.drop j)).length ≤ 1000 → Ev (fun k => gramaryeref22_Places.l0 k 100000 acc (j : Int) l) (acc ++ placesL (l.drop j))
  | 0, j, acc, h, ha => ev_here (fun k => by
      simp only [gramaryeref22_Places.l0]
      rw [if_neg (by omega), List.drop_eq_nil_of_le (by omega)]
      simp [placesL])
  | m + 1, j, acc, h, ha => by
    have hj : j < l.length := by omega
    have hx := hs l[j] (List.getElem_mem hj)
    rw [List.drop_eq_getElem_cons hj] at ha ⊢
    have hw := wrapS j (by omega)
    by_cases hc : l[j].f0 = 2 ∨ l[j].f0 = 3
    · have e : placesL (l[j] :: l.drop (j + 1)) = spanL l[j].f2 l[j].f3 ++ placesL (l.drop (j + 1)) := placesL_yes _ _ hc
      rw [e] at ha ⊢
      rw [List.length_append, spanL_length] at ha
      rw [← List.append_assoc]
      have ih := places_loop l hl hs m (j + 1) (acc ++ spanL l[j].f2 l[j].f3) (by omega) (by rw [List.length_append, spanL_length]; omega)
      rw [← hw] at ih
      have h1 := places_in l j l[j] [] _ (l[j].f3 - l[j].f2).toNat acc l[j].f2 (by omega) (by omega) hx.2.2 (by omega) ih
      have h2 : Ev (fun k => gramaryeref22_Places.j1 k 100000 acc (j : Int) false l l[j].f0 l[j].f1 l[j].f2 l[j].f3 l[j].f4 l[j].f5) (acc ++ spanL l[j].f2 l[j].f3 ++ placesL (l.drop (j + 1))) := ev_succ h1 (fun k hk => by
        simp only [gramaryeref22_Places.j1]
        rw [if_neg (by simp)]
        exact hk)
      refine ev_succ h2 (fun k hk => ?_)
      simp only [gramaryeref22_Places.l0]
      rw [rd_at hj, if_pos (by omega), if_pos (by omega)]
      by_cases h3 : l[j].f0 = 2
      · rw [if_pos h3]
        exact hk
      · have h4 : (l[j].f0 != 3) = false := by
          have : l[j].f0 = 3 := by omega
          rw [this]
          rfl
        rw [if_neg h3, h4]
        exact hk
    · have e : placesL (l[j] :: l.drop (j + 1)) = placesL (l.drop (j + 1)) := placesL_no _ _ hc
      rw [e] at ha ⊢
      have ih := places_loop l hl hs m (j + 1) acc (by omega) ha
      rw [← hw] at ih
      have h2 : Ev (fun k => gramaryeref22_Places.j1 k 100000 acc (j : Int) true l l[j].f0 l[j].f1 l[j].f2 l[j].f3 l[j].f4 l[j].f5) (acc ++ placesL (l.drop (j + 1))) := ev_succ ih (fun k hk => by
        simp only [gramaryeref22_Places.j1]
        rw [if_pos trivial]
        exact hk)
      refine ev_succ h2 (fun k hk => ?_)
      simp only [gramaryeref22_Places.l0]
      rw [rd_at hj, if_pos (by omega), if_pos (by omega), if_neg (fun z => hc (.inl z)), show (l[j].f0 != 3) = true from bne_iff_ne.2 (fun z => hc (.inr z))]
      exact hk
end Go.Proofs.YtafbmlhgcmlmpaaDoor.PT
