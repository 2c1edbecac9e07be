/- Chapter 22, plainly: what is so of every node of a tree that may be; its places. -/
import Derived.Test.YtafbmlhgcmlmpaaDoorVb
namespace Go.Proofs.YtafbmlhgcmlmpaaDoor.PT
open Go.RowKit Go.Proofs.YtafbmlhgcmlmpaaDoorW.PrintWords Go.Proofs.YtafbmlhgcmlmpaaDoorW.PrintLast Go.Proofs.YtafbmlhgcmlmpaaDoorW.PrintMore
set_option linter.unusedVariables false
set_option linter.unusedSimpArgs false
theorem right_in (x : S33) (h : rightB x = true) : 1 ≤ x.f0 ∧ x.f0 ≤ 5 ∧ 0 ≤ x.f2 ∧ x.f2 ≤ x.f3 := by
  by_cases hc : 1 ≤ x.f0 ∧ x.f0 ≤ 5 ∧ 0 ≤ x.f2 ∧ x.f2 ≤ x.f3
  · exact hc
  · rw [right_out x hc] at h
    cases h
theorem right_j0 (x : S33) (h : rightB x = true) : ∃ b, (x.f0 ≠ 1 → b = decide ((x.f5.length : Int) > 0)) ∧ tree_right.j0 1 b x.f0 x.f1 x.f2 x.f3 x.f4 x.f5 = some true := by
  have hi := right_in x h
  have hR := right_f x
  rw [h] at hR
  unfold tree_right.f at hR
  rw [if_neg (by omega), if_neg (by omega)] at hR
  by_cases hl : x.f4.toList = []
  · rw [if_pos hl] at hR
    by_cases h0 : x.f0 = 1
    · rw [if_pos h0] at hR
      exact ⟨_, fun z => absurd h0 z, hR⟩
    · rw [if_neg h0] at hR
      exact ⟨_, fun _ => rfl, hR⟩
  · rw [if_neg hl] at hR
    unfold name_Name.f at hR
    rw [Option.bind_some] at hR
    by_cases hn : nameB x.f4 = true
    · rw [if_pos hn] at hR
      by_cases h0 : x.f0 = 1
      · rw [if_pos h0] at hR
        exact ⟨_, fun z => absurd h0 z, hR⟩
      · rw [if_neg h0] at hR
        exact ⟨_, fun _ => rfl, hR⟩
    · rw [if_neg hn] at hR
      simp only [tree_right.j0] at hR
      rw [if_pos trivial] at hR
      cases hR
theorem right_kids (x : S33) (h : rightB x = true) (hk : x.f5 ≠ []) : x.f0 = 1 := by
  obtain ⟨b, hb, hj⟩ := right_j0 x h
  by_cases h0 : x.f0 = 1
  · exact h0
  · have hl : 0 < x.f5.length := by
      cases e : x.f5 with
      | nil => exact absurd e hk
      | cons a l => simp
    rw [hb h0, decide_eq_true (by omega)] at hj
    simp only [tree_right.j0] at hj
    rw [if_pos trivial] at hj
    cases hj
theorem right_leaf (x : S33) (h : rightB x = true) (hk : x.f5 = []) (h2 : x.f0 ≠ 2) (h3 : x.f0 ≠ 3) : x.f2 = x.f3 := by
  obtain ⟨b, hb, hj⟩ := right_j0 x h
  have hl : ¬ ((x.f5.length : Int) > 0) := by rw [hk]; simp
  simp only [tree_right.j0] at hj
  rw [if_neg h2, if_neg h3, if_neg hl] at hj
  repeat' (split at hj)
  all_goals first | cases hj | (simpa using hj) | (exfalso; simp at hj; done)
theorem spanL_app (a b c : Int) (h1 : a ≤ b) (h2 : b ≤ c) : spanL a b ++ spanL b c = spanL a c := by
  obtain ⟨n, rfl⟩ : ∃ n : Nat, c = b + n := ⟨(c - b).toNat, by omega⟩
  clear h2
  induction n with
  | zero => simp [spanL_nil]
  | succ n ih =>
    have e : b + ((n + 1 : Nat) : Int) = (b + n) + 1 := by omega
    rw [e, spanL_snoc (by omega), spanL_snoc (by omega), ← List.append_assoc, ih]
def plc (x : S33) : List Int := if x.f0 = 2 ∨ x.f0 = 3 then spanL x.f2 x.f3 else []
def PL (l : List S33) (a : Int) : Nat → List Int
  | 0 => []
  | m + 1 => plc (rd_T33 l a) ++ PL l (a + 1) m
theorem PL_add (l : List S33) : ∀ (m m' : Nat) (a : Int), PL l a (m + m') = PL l a m ++ PL l (a + m) m'
  | 0, m', a => by simp [PL]
  | m + 1, m', a => by
    rw [show m + 1 + m' = (m + m') + 1 from by omega]
    simp only [PL]
    rw [PL_add l m m' (a + 1), List.append_assoc, show a + 1 + (m : Int) = a + ((m + 1 : Nat) : Int) from by omega]
theorem PL_all (l : List S33) : ∀ (m j : Nat), j + m = l.length → PL l (j : Int) m = placesL (l.drop j)
  | 0, j, h => by
    rw [List.drop_eq_nil_of_le (by omega)]
    rfl
  | m + 1, j, h => by
    have hj : j < l.length := by omega
    rw [List.drop_eq_getElem_cons hj]
    simp only [PL, placesL, List.flatMap_cons]
    have := PL_all l m (j + 1) (by omega)
    rw [show ((j : Int) + 1) = ((j + 1 : Nat) : Int) from by omega, this]
    have e : rd_T33 l (j : Int) = l[j] := by simp [rd_T33, hj]
    rw [e]
    rfl
def Whole (l : List S33) (a b : Int) : Prop := ∀ j, a ≤ j → j < b → rightB (rd_T33 l j) = true
theorem kids_all (l : List S33) (n : Nat) (ih : ∀ (i nx nx' : Int), 0 ≤ nx → nx ≤ l.length → chk n l i nx = some (true, nx') → i = nx ∧ nx < nx' ∧ Whole l nx nx' ∧ PL l nx (nx' - nx).toNat = spanL (rd_T33 l i).f2 (rd_T33 l i).f3 ∧ (rd_T33 l i).f2 ≤ (rd_T33 l i).f3) :
    ∀ (ks : List Int) (at_ nx a nx' : Int), 0 ≤ nx → nx ≤ l.length → kidsF l (chk n l) ks at_ nx = some (some a, nx') → nx ≤ nx' ∧ Whole l nx nx' ∧ PL l nx (nx' - nx).toNat = spanL at_ a ∧ at_ ≤ a
  | [], at_, nx, a, nx', h0, h1, h => by
    have := Option.some.inj h
    injection this with e1 e2
    injection e1 with e1
    subst e1 e2
    exact ⟨Int.le_refl _, fun j h1 h2 => by omega, by rw [Int.sub_self, spanL_nil]; rfl, Int.le_refl _⟩
  | k :: ks, at_, nx, a, nx', h0, h1, h => by
    simp only [kidsF] at h
    split at h
    · cases h
    · rename_i hc
      obtain ⟨q, hq, h⟩ := Option.bind_eq_some_iff.1 h
      obtain ⟨b, m⟩ := q
      cases b with
      | false => rw [if_neg (by simp)] at h; cases h
      | true =>
        rw [if_pos rfl] at h
        have hr := chk_range n l k nx _ h0 h1 hq
        obtain ⟨e, hlt, hw, hp, hle⟩ := ih k nx m h0 h1 hq
        obtain ⟨hlt2, hw2, hp2, hle2⟩ := kids_all l n ih ks _ _ a nx' (by omega) hr.2 h
        have hat : (rd_T33 l k).f2 = at_ := by
          by_cases z : (rd_T33 l k).f2 = at_
          · exact z
          · exact absurd (.inr (.inr z)) hc
        rw [hat] at hp hle
        refine ⟨by omega, fun j z1 z2 => ?_, ?_, by omega⟩
        · by_cases zz : j < m
          · exact hw j z1 zz
          · exact hw2 j (by omega) z2
        · rw [show (nx' - nx).toNat = (m - nx).toNat + (nx' - m).toNat from by omega, PL_add, hp, show nx + ((m - nx).toNat : Int) = m from by omega, hp2]
          exact spanL_app _ _ _ hle hle2
theorem chk_all : ∀ (n : Nat) (l : List S33) (i nx nx' : Int), 0 ≤ nx → nx ≤ l.length → chk n l i nx = some (true, nx') → i = nx ∧ nx < nx' ∧ Whole l nx nx' ∧ PL l nx (nx' - nx).toNat = spanL (rd_T33 l i).f2 (rd_T33 l i).f3 ∧ (rd_T33 l i).f2 ≤ (rd_T33 l i).f3
  | 0, l, i, nx, nx', h0, h1, h => by cases h
  | n + 1, l, i, nx, nx', h0, h1, h => by
    unfold chk at h
    split at h
    · cases h
    · rename_i hi
      have hi : i = nx := by omega
      subst hi
      split at h
      · cases h
      · split at h
        · cases h
        · rename_i hlt hr
          have hr : rightB (rd_T33 l i) = true := by simpa using hr
          have hin := right_in _ hr
          obtain ⟨q, hq, h⟩ := Option.bind_eq_some_iff.1 h
          obtain ⟨o, m⟩ := q
          have h := Option.some.inj h
          cases o with
          | none => cases h
          | some a =>
            simp only [Prod.mk.injEq, Bool.or_eq_true, decide_eq_true_eq] at h
            obtain ⟨hend, rfl⟩ := h
            obtain ⟨k1, k2, k3, k4⟩ := kids_all l n (fun i nx nx' a b c => chk_all n l i nx nx' a b c) _ _ _ _ _ (by omega) (by omega) hq
            refine ⟨rfl, by omega, fun j z1 z2 => ?_, ?_, hin.2.2.2⟩
            · by_cases zz : j = i
              · rw [zz]; exact hr
              · exact k2 j (by omega) z2
            · rw [show (m - i).toNat = (m - (i + 1)).toNat + 1 from by omega]
              simp only [PL]
              rw [k3]
              by_cases hk : (rd_T33 l i).f5 = []
              · rw [hk] at hq
                have := Option.some.inj hq
                injection this with e1 e2
                injection e1 with e1
                subst e1
                rw [spanL_nil, List.append_nil]
                unfold plc
                split
                · rfl
                · rename_i hn
                  rw [right_leaf _ hr hk (fun z => hn (.inl z)) (fun z => hn (.inr z)), spanL_nil]
              · have hone := right_kids _ hr hk
                have : plc (rd_T33 l i) = [] := by unfold plc; rw [if_neg (by omega)]
                rw [this, List.nil_append]
                have : a = (rd_T33 l i).f3 := by
                  rcases hend with z | z
                  · exact absurd (List.length_eq_zero_iff.1 z) hk
                  · exact z
                rw [this]
theorem may_parts (l : List S33) (h : mayB l = true) : 0 < l.length ∧ l.length ≤ 100000 ∧ (rd_T33 l 0).f2 = 0 ∧ (∀ x ∈ l, rightB x = true) ∧ placesL l = spanL 0 (rd_T33 l 0).f3 := by
  simp only [mayB, Bool.and_eq_true, decide_eq_true_eq] at h
  obtain ⟨⟨⟨⟨h1, h2⟩, h3⟩, h4⟩, h5⟩ := h
  obtain ⟨r, hr⟩ := chk_some l
  unfold chkB at h5
  rw [hr] at h5
  obtain ⟨b, nx⟩ := r
  cases b with
  | false => cases h5
  | true =>
    simp only [decide_eq_true_eq] at h5
    subst h5
    obtain ⟨_, _, hw, hp, _⟩ := chk_all _ l 0 0 _ (by omega) (by omega) hr
    refine ⟨h1, h2, h4, fun x hx => ?_, ?_⟩
    · obtain ⟨j, hj, rfl⟩ := List.getElem_of_mem hx
      have := hw (j : Int) (by omega) (by omega)
      rwa [show rd_T33 l (j : Int) = l[j] from by simp [rd_T33, hj]] at this
    · have := PL_all l l.length 0 (by omega)
      rw [List.drop_zero] at this
      rw [h4] at hp
      rw [← this, ← hp]
      congr 1
end Go.Proofs.YtafbmlhgcmlmpaaDoor.PT
