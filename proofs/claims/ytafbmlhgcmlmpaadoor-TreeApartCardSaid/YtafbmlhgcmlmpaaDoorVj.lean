/- Chapter 22, plainly: a tree one of whose nodes has another number has another text. -/
import Derived.Test.YtafbmlhgcmlmpaaDoorVh
namespace Go.Proofs.YtafbmlhgcmlmpaaDoor.PT
open Go.RowKit Go.Proofs.YtafbmlhgcmlmpaaDoorW.PrintWords Go.Proofs.YtafbmlhgcmlmpaaDoorW.PrintLast Go.Proofs.YtafbmlhgcmlmpaaDoorW.PrintMore
set_option linter.unusedVariables false
set_option linter.unusedSimpArgs false
def Diff (a b s t : List UInt8) : Prop := ∃ P S, s = P ++ (a ++ S) ∧ t = P ++ (b ++ S)
theorem Diff.ne {a b s t : List UInt8} (h : Diff a b s t) (hab : a ≠ b) : s ≠ t := by
  obtain ⟨P, S, rfl, rfl⟩ := h
  intro e
  exact hab (List.append_cancel_right (List.append_cancel_left e))
theorem Diff.pre {a b s t : List UInt8} (h : Diff a b s t) (P : List UInt8) : Diff a b (P ++ s) (P ++ t) := by
  obtain ⟨Q, S, rfl, rfl⟩ := h
  exact ⟨P ++ Q, S, by simp, by simp⟩
theorem Diff.post {a b s t : List UInt8} (h : Diff a b s t) (P : List UInt8) : Diff a b (s ++ P) (t ++ P) := by
  obtain ⟨Q, S, rfl, rfl⟩ := h
  exact ⟨Q, S ++ P, by simp, by simp⟩
def numT (rules toks : List ByteArray) (x : S33) : List UInt8 :=
  if x.f0 = 1 then (ofB rules x.f1).data.toList else if x.f0 = 2 ∨ x.f0 = 4 then (ofB toks (wrap64 (x.f1 - 1))).data.toList else (itoaB x.f1).data.toList
def upN (x : S33) : S33 := ⟨x.f0, x.f1 + 1, x.f2, x.f3, x.f4, x.f5⟩
theorem body_diff (f g : Int → Option (List UInt8)) (rules toks : List ByteArray) (x y : S33) (e0 : y.f0 = x.f0) (e5 : y.f5 = x.f5) (h3 : x.f0 ≠ 3) (hfg : kidsT f x.f5 = kidsT g x.f5) (s t : List UInt8) (hs : bodyT f rules toks x = some s) (ht : bodyT g rules toks y = some t) :
    Diff (numT rules toks x) (numT rules toks y) s t := by
  unfold bodyT at hs ht
  unfold numT
  have h3' : y.f0 ≠ 3 := by rw [e0]; exact h3
  by_cases k1 : x.f0 = 1
  · have k1' : y.f0 = 1 := by rw [e0]; exact k1
    rw [if_pos k1] at hs ⊢
    rw [if_pos k1'] at ht ⊢
    rw [e5, ← hfg] at ht
    obtain ⟨a, ha, hs⟩ := Option.bind_eq_some_iff.1 hs
    rw [ha, Option.bind_some] at ht
    obtain rfl := Option.some.inj hs
    obtain rfl := Option.some.inj ht
    refine ⟨[40], a ++ [41], ?_, ?_⟩
    · rw [app_list]; simp
    · rw [app_list]; simp
  have k1' : ¬ y.f0 = 1 := by rw [e0]; exact k1
  rw [if_neg k1] at hs ⊢
  rw [if_neg k1'] at ht ⊢
  by_cases k2 : x.f0 = 2
  · have k2' : y.f0 = 2 := by rw [e0]; exact k2
    rw [if_pos k2] at hs
    rw [if_pos k2'] at ht
    rw [if_pos (.inl k2), if_pos (.inl k2')]
    obtain rfl := Option.some.inj hs
    obtain rfl := Option.some.inj ht
    exact ⟨[], [], by simp, by simp⟩
  have k2' : ¬ y.f0 = 2 := by rw [e0]; exact k2
  rw [if_neg k2, if_neg h3] at hs
  rw [if_neg k2', if_neg h3'] at ht
  by_cases k4 : x.f0 = 4
  · have k4' : y.f0 = 4 := by rw [e0]; exact k4
    rw [if_pos k4] at hs
    rw [if_pos k4'] at ht
    rw [if_pos (.inr k4), if_pos (.inr k4')]
    obtain rfl := Option.some.inj hs
    obtain rfl := Option.some.inj ht
    refine ⟨[33], [], ?_, ?_⟩
    · rw [app_list]; simp
    · rw [app_list]; simp
  · have k4' : ¬ y.f0 = 4 := by rw [e0]; exact k4
    rw [if_neg k4] at hs
    rw [if_neg k4'] at ht
    rw [if_neg (by omega), if_neg (by omega)]
    obtain rfl := Option.some.inj hs
    obtain rfl := Option.some.inj ht
    refine ⟨[63], [], ?_, ?_⟩
    · rw [app_list]; simp
    · rw [app_list]; simp
section
variable (l l' : List S33) (rules toks : List ByteArray) (p : Int)
def Parted (a b : List UInt8) (p nx nx' : Int) (s t : List UInt8) : Prop := (p < nx ∨ nx' ≤ p → t = s) ∧ (nx ≤ p ∧ p < nx' → Diff a b s t)
theorem kids_part (n : Nat)
    (ih : ∀ (i nx nx' : Int) (s t : List UInt8), 0 ≤ nx → nx ≤ l.length → chk n l i nx = some (true, nx') → nodeT n l rules toks i = some s → nodeT n l' rules toks i = some t → Parted (numT rules toks (rd_T33 l p)) (numT rules toks (upN (rd_T33 l p))) p nx nx' s t) :
    ∀ (ks : List Int) (at_ nx a nx' : Int) (s t : List UInt8), 0 ≤ nx → nx ≤ l.length → kidsF l (chk n l) ks at_ nx = some (some a, nx') → kidsT (nodeT n l rules toks) ks = some s → kidsT (nodeT n l' rules toks) ks = some t → Parted (numT rules toks (rd_T33 l p)) (numT rules toks (upN (rd_T33 l p))) p nx nx' s t
  | [], at_, nx, a, nx', s, t, h0, h1, h, hs, ht => by
    obtain rfl := Option.some.inj hs
    obtain rfl := Option.some.inj ht
    have := Option.some.inj h
    injection this with e1 e2
    subst e2
    exact ⟨fun _ => rfl, fun z => by omega⟩
  | k :: ks, at_, nx, a, nx', s, t, h0, h1, h, hs, ht => by
    simp only [kidsF] at h
    split at h
    · cases h
    · obtain ⟨q, hq, h⟩ := Option.bind_eq_some_iff.1 h
      obtain ⟨b, m⟩ := q
      cases b with
      | false => rw [if_neg (by simp)] at h; cases h
      | true =>
        rw [if_pos rfl] at h
        have hr2 := chk_range n l k nx _ h0 h1 hq
        have hr3 := kidsF_range l (chk n l) (fun i nx r a b c => chk_range n l i nx r a b c) _ _ _ _ (by omega) hr2.2 h
        simp only at hr2 hr3 h
        simp only [kidsT] at hs ht
        obtain ⟨s1, hs1, hs⟩ := Option.bind_eq_some_iff.1 hs
        obtain ⟨s2, hs2, hs⟩ := Option.bind_eq_some_iff.1 hs
        obtain ⟨t1, ht1, ht⟩ := Option.bind_eq_some_iff.1 ht
        obtain ⟨t2, ht2, ht⟩ := Option.bind_eq_some_iff.1 ht
        obtain rfl := Option.some.inj hs
        obtain rfl := Option.some.inj ht
        have p1 := ih k nx m s1 t1 h0 h1 hq hs1 ht1
        have p2 := kids_part n ih ks _ m a nx' s2 t2 (by omega) hr2.2 h hs2 ht2
        refine ⟨fun z => ?_, fun z => ?_⟩
        · rw [p1.1 (by omega), p2.1 (by omega)]
        · by_cases hm : p < m
          · have d := p1.2 ⟨z.1, hm⟩
            rw [p2.1 (.inl hm)]
            have := (d.pre [32]).post s2
            simpa using this
          · have d := p2.2 ⟨by omega, z.2⟩
            rw [p1.1 (.inr (by omega))]
            have := (d.pre (32 :: s1))
            simpa using this
variable (hoff : ∀ j, 0 ≤ j → j < (l.length : Int) → j ≠ p → rd_T33 l' j = rd_T33 l j) (hat : rd_T33 l' p = upN (rd_T33 l p)) (h3 : (rd_T33 l p).f0 ≠ 3)
include hoff hat h3
theorem node_part : ∀ (n : Nat) (i nx nx' : Int) (s t : List UInt8), 0 ≤ nx → nx ≤ l.length → chk n l i nx = some (true, nx') → nodeT n l rules toks i = some s → nodeT n l' rules toks i = some t → Parted (numT rules toks (rd_T33 l p)) (numT rules toks (upN (rd_T33 l p))) p nx nx' s t
  | 0, i, nx, nx', s, t, h0, h1, h, hs, ht => by cases h
  | n + 1, i, nx, nx', s, t, h0, h1, h, hs, ht => by
    unfold chk at h
    split at h
    · cases h
    · rename_i hi
      have hi : i = nx := by omega
      subst hi
      split at h
      · cases h
      · split at h
        · cases h
        · rename_i hlt hr
          have hr : rightB (rd_T33 l i) = true := by simpa using hr
          obtain ⟨q, hq, h⟩ := Option.bind_eq_some_iff.1 h
          obtain ⟨o, m⟩ := q
          have h := Option.some.inj h
          cases o with
          | none => cases h
          | some a =>
            simp only [Prod.mk.injEq, Bool.or_eq_true, decide_eq_true_eq] at h
            obtain ⟨hend, rfl⟩ := h
            have hr3 := kidsF_range l (chk n l) (fun i nx r a b c => chk_range n l i nx r a b c) _ _ _ _ (by omega) (by omega) hq
            simp only at hr3
            unfold nodeT at hs ht
            split at hs
            case isFalse => cases hs
            split at ht
            case isFalse => cases ht
            obtain ⟨s1, hs1, hs⟩ := Option.bind_eq_some_iff.1 hs
            obtain ⟨t1, ht1, ht⟩ := Option.bind_eq_some_iff.1 ht
            obtain rfl := Option.some.inj hs
            obtain rfl := Option.some.inj ht
            have hk := kids_part l l' rules toks p n (fun i nx nx' s t a b c d e => node_part n i nx nx' s t a b c d e) (rd_T33 l i).f5 (rd_T33 l i).f2 (i + 1) a m
            by_cases hp : i = p
            · subst hp
              have hkk : kidsT (nodeT n l rules toks) (rd_T33 l i).f5 = kidsT (nodeT n l' rules toks) (rd_T33 l i).f5 ∨ (rd_T33 l i).f0 ≠ 1 := by
                by_cases k1 : (rd_T33 l i).f0 = 1
                · left
                  rw [hat] at ht1
                  unfold bodyT at hs1 ht1
                  have k1' : (upN (rd_T33 l i)).f0 = 1 := k1
                  rw [if_pos k1] at hs1
                  rw [if_pos k1'] at ht1
                  obtain ⟨s2, hs2, _⟩ := Option.bind_eq_some_iff.1 hs1
                  obtain ⟨t2, ht2, _⟩ := Option.bind_eq_some_iff.1 ht1
                  have ht2' : kidsT (nodeT n l' rules toks) (rd_T33 l i).f5 = some t2 := ht2
                  rw [hs2, ht2']
                  exact congrArg some ((hk s2 t2 (by omega) (by omega) hq hs2 ht2).1 (.inl (by omega))).symm
                · exact .inr k1
              rw [hat] at ht1 ⊢
              have hl : labT (upN (rd_T33 l i)) = labT (rd_T33 l i) := rfl
              rw [hl]
              refine ⟨fun z => by omega, fun _ => ?_⟩
              refine Diff.pre ?_ _
              rcases hkk with hkk | hkk
              · exact body_diff _ _ rules toks (rd_T33 l i) (upN (rd_T33 l i)) rfl rfl h3 hkk s1 t1 hs1 ht1
              · refine body_diff (nodeT n l' rules toks) (nodeT n l' rules toks) rules toks (rd_T33 l i) (upN (rd_T33 l i)) rfl rfl h3 rfl s1 t1 ?_ ht1
                unfold bodyT at hs1 ⊢
                rw [if_neg hkk] at hs1 ⊢
                exact hs1
            · rw [hoff i h0 (by omega) hp] at ht1 ⊢
              by_cases k1 : (rd_T33 l i).f0 = 1
              · unfold bodyT at hs1 ht1
                rw [if_pos k1] at hs1 ht1
                obtain ⟨s2, hs2, hs1⟩ := Option.bind_eq_some_iff.1 hs1
                obtain ⟨t2, ht2, ht1⟩ := Option.bind_eq_some_iff.1 ht1
                obtain rfl := Option.some.inj hs1
                obtain rfl := Option.some.inj ht1
                have hkk := hk s2 t2 (by omega) (by omega) hq hs2 ht2
                refine ⟨fun z => by rw [hkk.1 (by omega)], fun z => ?_⟩
                exact (((hkk.2 ⟨by omega, z.2⟩).post [41]).pre _).pre _
              · have hsame : s1 = t1 := by
                  unfold bodyT at hs1 ht1
                  rw [if_neg k1] at hs1 ht1
                  exact Option.some.inj (hs1.symm.trans ht1)
                subst hsame
                refine ⟨fun _ => rfl, fun z => ?_⟩
                exfalso
                have hnil : (rd_T33 l i).f5 = [] := by
                  cases e : (rd_T33 l i).f5 with
                  | nil => rfl
                  | cons b bs => exact absurd (right_kids _ hr (by rw [e]; simp)) k1
                rw [hnil] at hq
                have := Option.some.inj hq
                injection this with e1 e2
                omega
end
end Go.Proofs.YtafbmlhgcmlmpaaDoor.PT
