/- Chapter 22, plainly: the reference's text of a node is the program's. -/
import Derived.Test.YtafbmlhgcmlmpaaDoorVf
import Derived.Test.YtafbmlhgcmlmpaaDoorVc
import Derived.Test.YtafbmlhgcmlmpaaDoorPTx10
namespace Go.Proofs.YtafbmlhgcmlmpaaDoor.PT
open Go.RowKit Go.Proofs.YtafbmlhgcmlmpaaDoorW.PrintWords Go.Proofs.YtafbmlhgcmlmpaaDoorW.PrintLast Go.Proofs.YtafbmlhgcmlmpaaDoorW.PrintMore
set_option linter.unusedVariables false
set_option linter.unusedSimpArgs false
theorem kidsx_ev (l : List S33) (rules toks : List ByteArray) (x : S33) (f : Int → Option (List UInt8)) (hf5 : x.f5.length ≤ 1000000)
    (ih : ∀ i s, f i = some s → s.length ≤ 1000000000000000000 → Ev (fun k => gramaryeref22_node.f k l i rules toks) ⟨s.toArray⟩) :
    ∀ (m j : Nat) (acc : ByteArray) (t : List UInt8), j + m = x.f5.length → kidsT f (x.f5.drop j) = some t → acc.size + t.length ≤ 1000000000000000000 →
      Ev (fun k => gramaryeref22_node.l0 k rules toks acc (j : Int) l x.f0 x.f1 x.f2 x.f3 x.f4 x.f5) ⟨(acc.data.toList ++ (t ++ [41])).toArray⟩
  | 0, j, acc, t, hj, ht, hs => by
    rw [List.drop_eq_nil_of_le (by omega)] at ht
    obtain rfl := Option.some.inj ht
    refine ev_eq (r := acc ++ ⟨#[41]⟩) (ev_here (fun k => ?_)) (ba_ext (by rw [app_list]; rfl))
    simp only [gramaryeref22_node.l0]
    rw [if_neg (by omega), if_pos (by omega)]
  | m + 1, j, acc, t, hj, ht, hs => by
    have hjl : j < x.f5.length := by omega
    rw [drop_rd hjl] at ht
    simp only [kidsT] at ht
    obtain ⟨a, ha, ht⟩ := Option.bind_eq_some_iff.1 ht
    obtain ⟨b, hb, ht⟩ := Option.bind_eq_some_iff.1 ht
    obtain rfl := Option.some.inj ht
    have hlen : (32 :: a ++ b).length = 1 + a.length + b.length := by simp; omega
    rw [hlen] at hs
    have ha' := ih _ a ha (by omega)
    have e32 : ((⟨#[32]⟩ : ByteArray) ++ ⟨a.toArray⟩).size = 1 + a.length := by rw [app_size, mk_size]; rfl
    have hrc := kidsx_ev l rules toks x f hf5 ih m (j + 1) (acc ++ ((⟨#[32]⟩ : ByteArray) ++ ⟨a.toArray⟩)) b (by omega) hb (by rw [app_size, e32]; omega)
    have e : (⟨((acc ++ ((⟨#[32]⟩ : ByteArray) ++ (⟨a.toArray⟩ : ByteArray))).data.toList ++ (b ++ [41])).toArray⟩ : ByteArray) = ⟨(acc.data.toList ++ (32 :: a ++ b ++ [41])).toArray⟩ := by
      rw [app_list, app_list]
      simp
    rw [e] at hrc
    obtain ⟨K1, h1⟩ := ha'
    obtain ⟨K2, h2⟩ := hrc
    refine ⟨max K1 K2 + 1, fun k hk => ?_⟩
    obtain ⟨m', rfl⟩ : ∃ m', k = m' + 1 := ⟨k - 1, by omega⟩
    have z1 : gramaryeref22_node.f m' l (rd x.f5 (j : Int)) rules toks = some ⟨a.toArray⟩ := h1 m' (by omega)
    simp only [gramaryeref22_node.l0]
    rw [if_pos (by omega), if_pos (by omega), z1, Option.bind_some, if_pos (by rw [mk_size]; omega), if_pos (by rw [e32]; omega), wrapS j (by omega)]
    exact h2 m' (by omega)
theorem bodyx_ev (l : List S33) (rules toks : List ByteArray) (x : S33) (f : Int → Option (List UInt8)) (hf5 : x.f5.length ≤ 1000000)
    (ih : ∀ i s, f i = some s → s.length ≤ 1000000000000000000 → Ev (fun k => gramaryeref22_node.f k l i rules toks) ⟨s.toArray⟩) (hok : okN x = true)
    (lab : ByteArray) (b : List UInt8) (h : bodyT f rules toks x = some b) (hs : lab.size + b.length ≤ 1000000000000000000) :
      Ev (fun k => gramaryeref22_node.j0 k rules toks lab l x.f0 x.f1 x.f2 x.f3 x.f4 x.f5) ⟨(lab.data.toList ++ b).toArray⟩ := by
  unfold bodyT at h
  unfold okN at hok
  by_cases k1 : x.f0 = 1
  · rw [if_pos k1] at h
    obtain ⟨t, ht, h⟩ := Option.bind_eq_some_iff.1 h
    obtain rfl := Option.some.inj h
    have e40 : ((⟨#[40]⟩ : ByteArray) ++ ofB rules x.f1).size = 1 + (ofB rules x.f1).size := by rw [app_size]; rfl
    rw [List.length_append, List.length_append, sz, e40, List.length_cons, List.length_nil] at hs
    have hrc := kidsx_ev l rules toks x f hf5 ih x.f5.length 0 (lab ++ ((⟨#[40]⟩ : ByteArray) ++ ofB rules x.f1)) t (by omega) (by rw [List.drop_zero]; exact ht) (by rw [app_size, e40]; omega)
    rw [app_list, List.append_assoc] at hrc
    refine ev_succ hrc (fun k hk => ?_)
    simp only [gramaryeref22_node.j0]
    rw [if_pos k1, refof_f, Option.bind_some, if_pos (by omega), if_pos (by rw [e40]; omega)]
    exact hk
  rw [if_neg k1] at h hok
  by_cases k2 : x.f0 = 2
  · rw [if_pos k2] at h
    obtain rfl := Option.some.inj h
    rw [sz] at hs
    refine ev_eq (r := lab ++ ofB toks (wrap64 (x.f1 - 1))) (ev_here (fun k => ?_)) (ba_ext (by rw [app_list]))
    simp only [gramaryeref22_node.j0]
    rw [if_neg k1, if_pos k2, refof_f, Option.bind_some, if_pos (by omega)]
  rw [if_neg k2] at h
  by_cases k3 : x.f0 = 3
  · rw [if_pos k3] at h
    rw [if_neg (by omega), if_pos k3] at hok
    simp only [Bool.and_eq_true, decide_eq_true_eq] at hok
    obtain ⟨⟨⟨a1, a2⟩, a3⟩, a4⟩ := hok
    obtain rfl := Option.some.inj h
    rw [sz] at hs
    have i1 := itoa_ev x.f2 a1 a2
    have i2 := itoa_ev x.f3 a3 a4
    have l1 : ((⟨#[60]⟩ : ByteArray)).size = 1 := rfl
    have l2 : ((⟨#[46, 46]⟩ : ByteArray)).size = 2 := rfl
    have l3 : ((⟨#[62]⟩ : ByteArray)).size = 1 := rfl
    simp only [app_size, l1, l2, l3] at hs
    refine ev_eq (r := ((((lab ++ (⟨#[60]⟩ : ByteArray)) ++ itoaB x.f2) ++ (⟨#[46, 46]⟩ : ByteArray)) ++ itoaB x.f3) ++ (⟨#[62]⟩ : ByteArray)) ?_ (ba_ext (by simp only [app_list, List.append_assoc]))
    obtain ⟨K1, h1⟩ := i1
    obtain ⟨K2, h2⟩ := i2
    refine ⟨max K1 K2 + 1, fun k hk => ?_⟩
    obtain ⟨m', rfl⟩ : ∃ m', k = m' + 1 := ⟨k - 1, by omega⟩
    have z1 : gramaryebase_Itoa.f m' x.f2 = some (itoaB x.f2) := h1 m' (by omega)
    have z2 : gramaryebase_Itoa.f m' x.f3 = some (itoaB x.f3) := h2 m' (by omega)
    simp only [gramaryeref22_node.j0]
    rw [if_neg k1, if_neg k2, if_pos k3, if_pos (by omega), z1, Option.bind_some, if_pos (by simp only [app_size, l1]; omega), if_pos (by simp only [app_size, l1]; omega), z2, Option.bind_some, if_pos (by simp only [app_size, l1, l2]; omega), if_pos (by simp only [app_size, l1, l2]; omega)]
  rw [if_neg k3] at h
  by_cases k4 : x.f0 = 4
  · rw [if_pos k4] at h
    obtain rfl := Option.some.inj h
    have l1 : ((⟨#[33]⟩ : ByteArray)).size = 1 := rfl
    rw [sz, app_size, l1] at hs
    refine ev_eq (r := (lab ++ (⟨#[33]⟩ : ByteArray)) ++ ofB toks (wrap64 (x.f1 - 1))) (ev_here (fun k => ?_)) (ba_ext (by simp only [app_list, List.append_assoc]))
    simp only [gramaryeref22_node.j0]
    rw [if_neg k1, if_neg k2, if_neg k3, if_pos k4, if_pos (by omega), refof_f, Option.bind_some, if_pos (by simp only [app_size, l1]; omega)]
  · rw [if_neg k4] at h
    rw [if_neg (by omega), if_neg k3] at hok
    simp only [Bool.and_eq_true, decide_eq_true_eq] at hok
    obtain rfl := Option.some.inj h
    have l1 : ((⟨#[63]⟩ : ByteArray)).size = 1 := rfl
    rw [sz, app_size, l1] at hs
    refine ev_eq (r := (lab ++ (⟨#[63]⟩ : ByteArray)) ++ itoaB x.f1) ?_ (ba_ext (by simp only [app_list, List.append_assoc]))
    obtain ⟨K1, h1⟩ := itoa_ev x.f1 hok.1 hok.2
    refine ⟨K1 + 1, fun k hk => ?_⟩
    obtain ⟨m', rfl⟩ : ∃ m', k = m' + 1 := ⟨k - 1, by omega⟩
    have z1 : gramaryebase_Itoa.f m' x.f1 = some (itoaB x.f1) := h1 m' (by omega)
    simp only [gramaryeref22_node.j0]
    rw [if_neg k1, if_neg k2, if_neg k3, if_neg k4, if_pos (by omega), z1, Option.bind_some, if_pos (by simp only [app_size, l1]; omega)]
theorem nodex_ev (l : List S33) (rules toks : List ByteArray) (hf : ∀ x ∈ l, x.f5.length ≤ 1000000) : ∀ (n : Nat) (i : Int) (s : List UInt8), nodeT n l rules toks i = some s → s.length ≤ 1000000000000000000 → Ev (fun k => gramaryeref22_node.f k l i rules toks) ⟨s.toArray⟩
  | 0, i, s, h, hs => by cases h
  | n + 1, i, s, h, hs => by
    unfold nodeT at h
    split at h
    case isFalse => cases h
    rename_i hc
    obtain ⟨h0, h1, hok⟩ := hc
    obtain ⟨b, hb, h⟩ := Option.bind_eq_some_iff.1 h
    obtain rfl := Option.some.inj h
    have hm : rd_T33 l i ∈ l := by
      have : i.toNat < l.length := by omega
      simp [rd_T33, this]
    have hf5 := hf _ hm
    have ih := fun i s a b => nodex_ev l rules toks hf n i s a b
    rw [List.length_append] at hs
    by_cases hl : (rd_T33 l i).f4.toList = []
    · have el : labT (rd_T33 l i) = (⟨#[]⟩ : ByteArray).data.toList := by unfold labT; rw [if_pos hl]
      rw [el] at hs ⊢
      have := bodyx_ev l rules toks (rd_T33 l i) _ hf5 ih hok ⟨#[]⟩ b hb (by rw [sz] at hs; exact hs)
      refine ev_succ this (fun k hk => ?_)
      simp only [gramaryeref22_node.f]
      rw [if_pos h0, if_pos h1, if_pos hl]
      exact hk
    · have el : labT (rd_T33 l i) = ((rd_T33 l i).f4 ++ (⟨#[58]⟩ : ByteArray)).data.toList := by unfold labT; rw [if_neg hl]
      rw [el] at hs ⊢
      have l1 : ((⟨#[58]⟩ : ByteArray)).size = 1 := rfl
      rw [sz] at hs
      have := bodyx_ev l rules toks (rd_T33 l i) _ hf5 ih hok ((rd_T33 l i).f4 ++ (⟨#[58]⟩ : ByteArray)) b hb hs
      rw [app_size, l1] at hs
      refine ev_succ this (fun k hk => ?_)
      simp only [gramaryeref22_node.f]
      rw [if_pos h0, if_pos h1, if_neg hl, if_pos (by omega)]
      exact hk
end Go.Proofs.YtafbmlhgcmlmpaaDoor.PT
