/- Chapter 22, plainly: a tree that may be has a text, which is not long. -/
import Derived.Test.YtafbmlhgcmlmpaaDoorVg
namespace Go.Proofs.YtafbmlhgcmlmpaaDoor.PT
open Go.RowKit Go.Proofs.YtafbmlhgcmlmpaaDoorW.PrintWords Go.Proofs.YtafbmlhgcmlmpaaDoorW.PrintLast Go.Proofs.YtafbmlhgcmlmpaaDoorW.PrintMore
set_option linter.unusedVariables false
set_option linter.unusedSimpArgs false
theorem right_num (x : S33) (h : rightB x = true) : (x.f0 = 1 → 0 ≤ x.f1) ∧ (x.f0 = 2 → 0 < x.f1) ∧ (x.f0 = 3 → x.f1 = 0) ∧ (x.f0 = 4 → 0 < x.f1) ∧ (x.f0 = 5 → 0 ≤ x.f1) := by
  obtain ⟨b, hb, hj⟩ := right_j0 x h
  simp only [tree_right.j0] at hj
  have hb' : b = false := by
    cases b with
    | false => rfl
    | true => rw [if_pos rfl] at hj; cases hj
  subst hb'
  rw [if_neg (by simp)] at hj
  refine ⟨fun e => ?_, fun e => ?_, fun e => ?_, fun e => ?_, fun e => ?_⟩
  · rw [if_pos e] at hj
    by_cases z : x.f1 ≥ 0
    · exact z
    · rw [if_neg z] at hj; cases hj
  · rw [if_neg (by omega), if_pos e] at hj
    by_cases z : x.f1 > 0
    · exact z
    · rw [if_neg z] at hj; cases hj
  · rw [if_neg (by omega), if_neg (by omega), if_pos e] at hj
    by_cases z : x.f1 = 0
    · exact z
    · rw [if_neg z] at hj; cases hj
  · rw [if_neg (by omega), if_neg (by omega), if_neg (by omega), if_pos e] at hj
    by_cases z : x.f1 > 0
    · exact z
    · rw [if_neg z] at hj; cases hj
  · rw [if_neg (by omega), if_neg (by omega), if_neg (by omega), if_neg (by omega), if_pos e] at hj
    by_cases z : x.f1 ≥ 0
    · exact z
    · rw [if_neg z] at hj; cases hj
theorem right_lab (x : S33) (h : rightB x = true) : x.f4.toList = [] ∨ x.f4.size ≤ 20 := by
  have hi := right_in x h
  have hR := right_f x
  rw [h] at hR
  unfold tree_right.f at hR
  rw [if_neg (by omega), if_neg (by omega)] at hR
  by_cases hl : x.f4.toList = []
  · exact .inl hl
  · right
    rw [if_neg hl] at hR
    unfold name_Name.f at hR
    rw [Option.bind_some] at hR
    by_cases hn : nameB x.f4 = true
    · by_cases h20 : 20 < x.f4.size
      · unfold nameB at hn
        rw [speltB_none (.inr (.inl h20))] at hn
        cases hn
      · omega
    · rw [if_neg hn] at hR
      simp only [tree_right.j0] at hR
      rw [if_pos trivial] at hR
      cases hR
def Num64 (x : S33) : Prop := x.f1 ≤ 9223372036854775807 ∧ x.f2 ≤ 9223372036854775807 ∧ x.f3 ≤ 9223372036854775807
theorem right_ok (x : S33) (h : rightB x = true) (hx : Num64 x) : okN x = true := by
  have hi := right_in x h
  obtain ⟨n1, n2, n3, n4, n5⟩ := right_num x h
  obtain ⟨m1, m2, m3⟩ := hx
  unfold okN
  by_cases k1 : x.f0 = 1
  · rw [if_pos k1]
  rw [if_neg k1]
  by_cases k2 : x.f0 = 2 ∨ x.f0 = 4
  · rw [if_pos k2]
    have : 0 < x.f1 := k2.elim n2 n4
    simp [this, m1]
  rw [if_neg k2]
  by_cases k3 : x.f0 = 3
  · rw [if_pos k3]
    have : 0 ≤ x.f3 := by omega
    simp [hi.2.2.1, this, m2, m3]
  · rw [if_neg k3]
    have : 0 ≤ x.f1 := n5 (by omega)
    simp [this, m1]
theorem lab_len (x : S33) (h : rightB x = true) : (labT x).length ≤ 21 := by
  unfold labT
  rcases right_lab x h with e | e
  · rw [if_pos e]; simp
  · split
    · simp
    · have l1 : ((⟨#[58]⟩ : ByteArray)).size = 1 := rfl
      rw [sz, app_size, l1]
      omega
theorem body_len (f : Int → Option (List UInt8)) (rules toks : List ByteArray) (M : Nat) (hR : ∀ i, (ofB rules i).size ≤ M) (hT : ∀ i, (ofB toks i).size ≤ M) (x : S33) (h : rightB x = true) (hx : Num64 x) (t : List UInt8) (ht : kidsT f x.f5 = some t) :
    ∃ b, bodyT f rules toks x = some b ∧ b.length ≤ M + 44 + t.length ∧ (x.f0 = 1 → b ≠ []) := by
  have hi := right_in x h
  obtain ⟨n1, n2, n3, n4, n5⟩ := right_num x h
  obtain ⟨m1, m2, m3⟩ := hx
  unfold bodyT
  by_cases k1 : x.f0 = 1
  · rw [if_pos k1, ht]
    refine ⟨_, rfl, ?_, fun _ e => ?_⟩
    · have e40 : ((⟨#[40]⟩ : ByteArray) ++ ofB rules x.f1).size = 1 + (ofB rules x.f1).size := by rw [app_size]; rfl
      have := hR x.f1
      rw [List.length_append, List.length_append, sz, e40, List.length_cons, List.length_nil]
      omega
    · have := congrArg List.length e
      simp at this
  rw [if_neg k1]
  by_cases k2 : x.f0 = 2
  · rw [if_pos k2]
    refine ⟨_, rfl, ?_, fun z => absurd z k1⟩
    have := hT (wrap64 (x.f1 - 1))
    rw [sz]
    omega
  rw [if_neg k2]
  by_cases k3 : x.f0 = 3
  · rw [if_pos k3]
    refine ⟨_, rfl, ?_, fun z => absurd z k1⟩
    have l1 : ((⟨#[60]⟩ : ByteArray)).size = 1 := rfl
    have l2 : ((⟨#[46, 46]⟩ : ByteArray)).size = 2 := rfl
    have l3 : ((⟨#[62]⟩ : ByteArray)).size = 1 := rfl
    have i1 := itoa_size x.f2 hi.2.2.1 m2
    have i2 := itoa_size x.f3 (by omega) m3
    rw [sz]
    simp only [app_size, l1, l2, l3]
    omega
  rw [if_neg k3]
  by_cases k4 : x.f0 = 4
  · rw [if_pos k4]
    refine ⟨_, rfl, ?_, fun z => absurd z k1⟩
    have := hT (wrap64 (x.f1 - 1))
    have l1 : ((⟨#[33]⟩ : ByteArray)).size = 1 := rfl
    rw [sz, app_size, l1]
    omega
  · rw [if_neg k4]
    refine ⟨_, rfl, ?_, fun z => absurd z k1⟩
    have l1 : ((⟨#[63]⟩ : ByteArray)).size = 1 := rfl
    have i1 := itoa_size x.f1 (n5 (by omega)) m1
    rw [sz, app_size, l1]
    omega
theorem mul_split (a b c C : Nat) (h : c = a + b) : a * C + b * C = c * C := by rw [h, Nat.add_mul]
theorem kids_some (l : List S33) (rules toks : List ByteArray) (C n : Nat)
    (ih : ∀ (i nx nx' : Int), 0 ≤ nx → nx ≤ l.length → chk n l i nx = some (true, nx') → ∃ s, nodeT n l rules toks i = some s ∧ s.length + 1 ≤ (nx' - nx).toNat * C) :
    ∀ (ks : List Int) (at_ nx a nx' : Int), 0 ≤ nx → nx ≤ l.length → kidsF l (chk n l) ks at_ nx = some (some a, nx') → ∃ t, kidsT (nodeT n l rules toks) ks = some t ∧ t.length ≤ (nx' - nx).toNat * C
  | [], at_, nx, a, nx', h0, h1, h => ⟨[], rfl, by simp⟩
  | k :: ks, at_, nx, a, nx', h0, h1, h => by
    have hr := kidsF_range l (chk n l) (fun i nx r a b c => chk_range n l i nx r a b c) _ _ _ _ h0 h1 h
    simp only [kidsF] at h
    split at h
    · cases h
    · obtain ⟨q, hq, h⟩ := Option.bind_eq_some_iff.1 h
      obtain ⟨b, m⟩ := q
      cases b with
      | false => rw [if_neg (by simp)] at h; cases h
      | true =>
        rw [if_pos rfl] at h
        have hr2 := chk_range n l k nx _ h0 h1 hq
        obtain ⟨s, hs, hsl⟩ := ih k nx m h0 h1 hq
        have hr3 := kidsF_range l (chk n l) (fun i nx r a b c => chk_range n l i nx r a b c) _ _ _ _ (by omega) hr2.2 h
        obtain ⟨t, ht, htl⟩ := kids_some l rules toks C n ih ks _ _ a nx' (by omega) hr2.2 h
        refine ⟨32 :: s ++ t, by simp only [kidsT]; rw [hs, Option.bind_some, ht]; rfl, ?_⟩
        have e : (32 :: s ++ t).length = s.length + 1 + t.length := by simp; omega
        simp only at hr2 hr3 htl
        have := mul_split (m - nx).toNat (nx' - m).toNat (nx' - nx).toNat C (by omega)
        rw [e]
        omega
theorem text_some (l : List S33) (rules toks : List ByteArray) (M : Nat) (hR : ∀ i, (ofB rules i).size ≤ M) (hT : ∀ i, (ofB toks i).size ≤ M) (hx : ∀ x ∈ l, Num64 x) : ∀ (n : Nat) (i nx nx' : Int), 0 ≤ nx → nx ≤ l.length → chk n l i nx = some (true, nx') →
    ∃ s, nodeT n l rules toks i = some s ∧ s.length + 1 ≤ (nx' - nx).toNat * (M + 70) ∧ ((rd_T33 l i).f0 = 1 → s ≠ [])
  | 0, i, nx, nx', h0, h1, h => by cases h
  | n + 1, i, nx, nx', h0, h1, h => by
    unfold chk at h
    split at h
    · cases h
    · rename_i hi
      have hi : i = nx := by omega
      subst hi
      split at h
      · cases h
      · split at h
        · cases h
        · rename_i hlt hr
          have hr : rightB (rd_T33 l i) = true := by simpa using hr
          have hm : rd_T33 l i ∈ l := by
            have : i.toNat < l.length := by omega
            simp [rd_T33, this]
          obtain ⟨q, hq, h⟩ := Option.bind_eq_some_iff.1 h
          obtain ⟨o, m⟩ := q
          have h := Option.some.inj h
          cases o with
          | none => cases h
          | some a =>
            simp only [Prod.mk.injEq, Bool.or_eq_true, decide_eq_true_eq] at h
            obtain ⟨hend, rfl⟩ := h
            have hr3 := kidsF_range l (chk n l) (fun i nx r a b c => chk_range n l i nx r a b c) _ _ _ _ (by omega) (by omega) hq
            simp only at hr3
            obtain ⟨t, ht, htl⟩ := kids_some l rules toks (M + 70) n (fun i nx nx' a b c => by obtain ⟨s, z1, z2, _⟩ := text_some l rules toks M hR hT hx n i nx nx' a b c; exact ⟨s, z1, z2⟩) _ _ _ _ _ (by omega) (by omega) hq
            obtain ⟨b, hb, hbl, hbn⟩ := body_len (nodeT n l rules toks) rules toks M hR hT _ hr (hx _ hm) t ht
            have hlab := lab_len _ hr
            refine ⟨labT (rd_T33 l i) ++ b, ?_, ?_, fun z e => hbn z (List.append_eq_nil_iff.1 e).2⟩
            · unfold nodeT
              rw [if_pos ⟨h0, by omega, right_ok _ hr (hx _ hm)⟩, hb]
              rfl
            · have := mul_split (m - (i + 1)).toNat 1 (m - i).toNat (M + 70) (by omega)
              rw [List.length_append]
              omega
theorem text_may (l : List S33) (rules toks : List ByteArray) (M : Nat) (hM : M ≤ 100000000) (hR : ∀ i, (ofB rules i).size ≤ M) (hT : ∀ i, (ofB toks i).size ≤ M) (hx : ∀ x ∈ l, Num64 x) (h : mayB l = true) :
    ∃ s, nodeT (l.length + 1) l rules toks 0 = some s ∧ s.length ≤ 70368744177664 ∧ s ≠ [] := by
  simp only [mayB, Bool.and_eq_true, decide_eq_true_eq] at h
  obtain ⟨⟨⟨⟨h1, h2⟩, h3⟩, h4⟩, h5⟩ := h
  obtain ⟨r, hr⟩ := chk_some l
  unfold chkB at h5
  rw [hr] at h5
  obtain ⟨b, nx⟩ := r
  cases b with
  | false => cases h5
  | true =>
    obtain ⟨s, a1, a2, a3⟩ := text_some l rules toks M hR hT hx _ 0 0 _ (by omega) (by omega) hr
    refine ⟨s, a1, ?_, a3 h3⟩
    have hb := chk_range _ _ _ _ _ (by omega) (by omega) hr
    simp only at hb
    have : (nx - 0).toNat ≤ 100000 := by omega
    have := Nat.mul_le_mul this (show M + 70 ≤ 100000070 by omega)
    omega
theorem refText_ev (l : List S33) (rules toks : List ByteArray) (M : Nat) (hM : M ≤ 100000000) (hR : ∀ i, (ofB rules i).size ≤ M) (hT : ∀ i, (ofB toks i).size ≤ M) (hf : ∀ x ∈ l, x.f5.length ≤ 1000000) (hx : ∀ x ∈ l, Num64 x) (h : mayB l = true) :
    ∃ s, nodeT (l.length + 1) l rules toks 0 = some s ∧ tree_Text.f l rules toks = some ⟨s.toArray⟩ ∧ Ev (fun k => gramaryeref22_node.f k l 0 rules toks) ⟨s.toArray⟩ := by
  obtain ⟨s, a1, a2, a3⟩ := text_may l rules toks M hM hR hT hx h
  refine ⟨s, a1, ?_, nodex_ev l rules toks hf _ 0 s a1 (by omega)⟩
  unfold tree_Text.f
  rw [if_pos h, a1, Option.bind_some, if_pos ⟨a2, a3⟩]
end Go.Proofs.YtafbmlhgcmlmpaaDoor.PT
