/- Chapter 22, plainly: TreeTexts answers true. -/
import Derived.Test.YtafbmlhgcmlmpaaDoorVh
import Derived.Test.YtafbmlhgcmlmpaaDoorVd
import Derived.Test.YtafbmlhgcmlmpaaDoorPTx12
namespace Go.Proofs.YtafbmlhgcmlmpaaDoor.PT
open Go.RowKit Go.Proofs.YtafbmlhgcmlmpaaDoorW.PrintWords Go.Proofs.YtafbmlhgcmlmpaaDoorW.PrintLast Go.Proofs.YtafbmlhgcmlmpaaDoorW.PrintMore
set_option linter.unusedVariables false
set_option linter.unusedSimpArgs false
theorem ints_loop (l m : List Int) (hl : l.length = m.length) (hb : l.length ≤ 1000000) : ∀ (n j : Nat), j + n = l.length → Ev (fun k => gramaryebase_SameInts.l0 k l m (j : Int)) (l.drop j == m.drop j)
  | 0, j, h => ev_here (fun k => by
      simp only [gramaryebase_SameInts.l0]
      rw [if_neg (by omega), List.drop_eq_nil_of_le (by omega), List.drop_eq_nil_of_le (by omega)]
      rfl)
  | n + 1, j, h => by
    have hj : j < l.length := by omega
    have hj2 : j < m.length := by omega
    have e1 : rd l (j : Int) = l[j] := by simp [rd, hj]
    have e2 : rd m (j : Int) = m[j] := by simp [rd, hj2]
    rw [List.drop_eq_getElem_cons hj, List.drop_eq_getElem_cons hj2, List.cons_beq_cons]
    by_cases he : l[j] = m[j]
    · rw [beq_iff_eq.2 he, Bool.true_and]
      refine ev_succ (ints_loop l m hl hb n (j + 1) (by omega)) (fun k hk => ?_)
      simp only [gramaryebase_SameInts.l0]
      rw [if_pos (by omega), if_pos (by omega), if_pos (by omega), e1, e2, if_pos he, wrapS j (by omega)]
      exact hk
    · rw [beq_eq_false_iff_ne.2 he, Bool.false_and]
      refine ev_here (fun k => ?_)
      simp only [gramaryebase_SameInts.l0]
      rw [if_pos (by omega), if_pos (by omega), if_pos (by omega), e1, e2, if_neg he]
theorem ints_ev (l m : List Int) (hb : l.length ≤ 1000000) : Ev (fun k => gramaryebase_SameInts.f k l m) (l == m) := by
  by_cases hl : l.length = m.length
  · refine Ev.congr (fun k => if_pos (by omega)) ?_
    have := ints_loop l m hl hb l.length 0 (by omega)
    simpa using this
  · refine Ev.congr (fun k => if_neg (by omega)) ?_
    have : l ≠ m := fun e => hl (by rw [e])
    exact ev_eq (Ev.now _) (by simp [this])
theorem list_loop (l m : List S33) (hl : l.length = m.length) (hb : l.length ≤ 1000000) (hf : ∀ x ∈ l, x.f5.length ≤ 1000000) : ∀ (n j : Nat), j + n = l.length → Ev (fun k => gramaryeref22_SameList.l0 k (j : Int) l m) (allS (l.drop j) (m.drop j))
  | 0, j, h => ev_here (fun k => by
      simp only [gramaryeref22_SameList.l0]
      rw [if_neg (by omega), List.drop_eq_nil_of_le (by omega), List.drop_eq_nil_of_le (by omega)]
      rfl)
  | n + 1, j, h => by
    have hj : j < l.length := by omega
    have hj2 : j < m.length := by omega
    rw [allS_drop hj hj2]
    have hm : rd_T33 l (j : Int) ∈ l := by simp [rd_T33, hj]
    have h5 := hf _ hm
    have ih := list_loop l m hl hb hf n (j + 1) (by omega)
    have start : ∀ v, Ev (fun k => if (rd_T33 l (j : Int)).f0 = (rd_T33 m (j : Int)).f0 then (if (rd_T33 l (j : Int)).f1 = (rd_T33 m (j : Int)).f1 then (if (rd_T33 l (j : Int)).f2 = (rd_T33 m (j : Int)).f2 then (if (rd_T33 l (j : Int)).f3 = (rd_T33 m (j : Int)).f3 then (if (rd_T33 l (j : Int)).f4.toList = (rd_T33 m (j : Int)).f4.toList then ((gramaryebase_SameInts.f k (rd_T33 l (j : Int)).f5 (rd_T33 m (j : Int)).f5).bind fun t => if t = true then gramaryeref22_SameList.l0 k ((j + 1 : Nat) : Int) l m else some false) else some false) else some false) else some false) else some false) else some false) v →
        Ev (fun k => gramaryeref22_SameList.l0 k (j : Int) l m) v := fun v hv => ev_succ hv (fun k hk => by
      simp only [gramaryeref22_SameList.l0]
      rw [if_pos (by omega), if_pos (by omega), if_pos (by omega), wrapS j (by omega)]
      exact hk)
    refine start _ ?_
    generalize rd_T33 l (j : Int) = x at h5 ⊢
    generalize rd_T33 m (j : Int) = y at ⊢
    unfold eqS
    by_cases h0 : x.f0 = y.f0
    · refine Ev.congr (fun k => if_pos h0) ?_
      by_cases h1 : x.f1 = y.f1
      · refine Ev.congr (fun k => if_pos h1) ?_
        by_cases h2 : x.f2 = y.f2
        · refine Ev.congr (fun k => if_pos h2) ?_
          by_cases h3 : x.f3 = y.f3
          · refine Ev.congr (fun k => if_pos h3) ?_
            by_cases h4 : x.f4.toList = y.f4.toList
            · refine Ev.congr (fun k => if_pos h4) ?_
              refine Ev.bind (ints_ev x.f5 y.f5 h5) ?_
              by_cases h6 : x.f5 = y.f5
              · refine Ev.congr (fun k => if_pos (by simp [h6])) ?_
                exact ev_eq ih (by simp [h0, h1, h2, h3, h4, h6])
              · refine Ev.congr (fun k => if_neg (by simp [h6])) ?_
                exact ev_eq (Ev.now _) (by simp [h0, h1, h2, h3, h4, h6])
            · refine Ev.congr (fun k => if_neg h4) ?_
              exact ev_eq (Ev.now _) (by simp [h0, h1, h2, h3, h4])
          · refine Ev.congr (fun k => if_neg h3) ?_
            exact ev_eq (Ev.now _) (by simp [h0, h1, h2, h3])
        · refine Ev.congr (fun k => if_neg h2) ?_
          exact ev_eq (Ev.now _) (by simp [h0, h1, h2])
      · refine Ev.congr (fun k => if_neg h1) ?_
        exact ev_eq (Ev.now _) (by simp [h0, h1])
    · refine Ev.congr (fun k => if_neg h0) ?_
      exact ev_eq (Ev.now _) (by simp [h0])
theorem list_ev (l m : List S33) (hb : l.length ≤ 1000000) (hf : ∀ x ∈ l, x.f5.length ≤ 1000000) : Ev (fun k => gramaryeref22_SameList.f k l m) (allS l m) := by
  by_cases hl : l.length = m.length
  · refine Ev.congr (fun k => if_pos (by omega)) ?_
    have := list_loop l m hl hb hf l.length 0 (by omega)
    simpa using this
  · refine Ev.congr (fun k => if_neg (by omega)) ?_
    exact ev_eq (Ev.now _) (allS_len hl).symm
theorem ofb_size (R : List ByteArray) (M : Nat) (hM : 1 ≤ M) (h : ∀ s ∈ R, s.size ≤ M) (i : Int) : (ofB R i).size ≤ M := by
  unfold ofB tree_of.f
  have q : ((⟨#[63]⟩ : ByteArray)).size = 1 := rfl
  split
  · show ((⟨#[63]⟩ : ByteArray)).size ≤ M
    omega
  · split
    · show ((⟨#[63]⟩ : ByteArray)).size ≤ M
      omega
    · split
      · split
        · rename_i hi
          show (rdOf ByteArray.empty R i).size ≤ M
          have hi' : i.toNat < R.length := by omega
          refine h _ ?_
          simp [rdOf, hi']
        · exact Nat.zero_le _
      · exact Nat.zero_le _
structure FewT (L : List S33) : Prop where
  len : L.length ≤ 300
  kids : ∀ x ∈ L, x.f5.length ≤ 300
  in64 : ∀ x ∈ L, In64 x
  num : ∀ x ∈ L, Num64 x
  few : Ev (fun k => gramaryelaw22_Few.f k L) L
theorem few_num (l : List S33) (h : ∀ x ∈ l, Num64 x) : ∀ x ∈ fewL l, Num64 x := by
  intro x hx
  obtain ⟨y, hy, rfl⟩ := List.mem_map.1 hx
  exact h y (List.mem_of_mem_take hy)
theorem fewT (l : List S33) (h : ∀ x ∈ l, In64 x) (h2 : ∀ x ∈ l, Num64 x) : FewT (fewL l) := ⟨few_le l, few_kids l, few_in l h, few_num l h2, ev_eq (few_ev (fewL l)) (few_few l)⟩
theorem reftext_ev (L : List S33) (h : FewT L) (R T : List ByteArray) (M : Nat) (hM : M ≤ 100000000) (hR : ∀ i, (ofB R i).size ≤ M) (hT : ∀ i, (ofB T i).size ≤ M) : ∃ s, tree_Text.f L R T = some s ∧ Ev (fun k => gramaryeref22_Text.f k L R T) s := by
  have hl := h.len
  have hM' := may_ev L (by omega) (fun x hx => by have := h.kids x hx; omega) h.in64
  cases hm : mayB L with
  | false =>
    rw [hm] at hM'
    refine ⟨⟨#[]⟩, by unfold tree_Text.f; rw [if_neg (by simp [hm])], ?_⟩
    refine Ev.bind hM' ?_
    exact Ev.congr (fun k => if_neg (by decide)) (Ev.now _)
  | true =>
    rw [hm] at hM'
    obtain ⟨s, a1, a2, a3⟩ := refText_ev L R T M hM hR hT (fun x hx => by have := h.kids x hx; omega) h.num hm
    refine ⟨_, a2, ?_⟩
    refine Ev.bind hM' ?_
    refine Ev.congr (fun k => if_pos (by rfl)) ?_
    exact Ev.bind a3 (Ev.now _)
theorem textsj_ev (L L2 : List S33) (h : FewT L) (h2 : FewT L2) (R T : List ByteArray) (M : Nat) (hM : M ≤ 100000000) (hR : ∀ i, (ofB R i).size ≤ M) (hT : ∀ i, (ofB T i).size ≤ M) (b : Bool) (hb : b = sameB L L2) : Ev (fun k => gramaryelaw22_TreeTexts.j0 k R T b L L2) true := by
  obtain ⟨s, a1, a2⟩ := reftext_ev L h R T M hM hR hT
  have key : Ev (fun k => (gramaryelaw22_Few.f k L).bind fun t274 => ((tree_Text.f t274 R T).bind fun t277 => ((gramaryeref22_Text.f k L R T).bind fun t278 => (if t277.toList = t278.toList then ((gramaryelaw22_Few.f k L).bind fun t279 => ((gramaryelaw22_Few.f k L2).bind fun t282 => ((tree_Same.f t279 t282).bind fun t285 => (if (t285 == b) = true then ((gramaryelaw22_works.f).bind fun t286 => (some t286)) else (some false))))) else (some false))))) true := by
    refine Ev.bind h.few ?_
    refine Ev.bind (a := s) (Ev.congr (fun k => a1) (Ev.now _)) ?_
    refine Ev.bind a2 ?_
    refine Ev.congr (fun k => if_pos rfl) ?_
    refine Ev.bind h.few ?_
    refine Ev.bind h2.few ?_
    refine Ev.bind (a := sameB L L2) (Ev.now _) ?_
    refine Ev.congr (fun k => if_pos (by rw [hb]; simp)) ?_
    exact Ev.now _
  exact ev_succ key (fun k hk => hk)
theorem mn_take (l : List ByteArray) : l.take (mn (l.length : Int) 20 : Int).toNat = l.take 20 := by
  unfold mn
  split
  · rfl
  · rw [List.take_of_length_le (by omega), List.take_of_length_le (by omega)]
theorem texts_ev (a b : List S33) (R T : List ByteArray) (ha : ∀ x ∈ a, In64 x) (ha2 : ∀ x ∈ a, Num64 x) (hb : ∀ x ∈ b, In64 x) (hb2 : ∀ x ∈ b, Num64 x) (M : Nat) (h1 : 1 ≤ M) (hM : M ≤ 100000000) (hR : ∀ s ∈ R, s.size ≤ M) (hT : ∀ s ∈ T, s.size ≤ M) :
    Ev (fun k => gramaryelaw22_TreeTexts.f k a b R T) true := by
  have hA := fewT a ha ha2
  have hB := fewT b hb hb2
  unfold gramaryelaw22_TreeTexts.f
  refine Ev.bind (few_ev a) ?_
  refine Ev.bind (few_ev b) ?_
  refine Ev.bind (a := []) (Ev.now _) ?_
  have m0 : ∀ l : List ByteArray, (0 : Int) ≤ mn (l.length : Int) 20 := fun l => by unfold mn; split <;> omega
  have m1 : ∀ l : List ByteArray, mn (l.length : Int) 20 ≤ (l.length : Int) := fun l => by unfold mn; split <;> omega
  have m2 : ∀ l : List ByteArray, (([] : List ByteArray)).length + (l.take (mn (l.length : Int) 20 : Int).toNat).length < 8796093022208 := fun l => by
    rw [mn_take, List.length_take, List.length_nil]
    omega
  refine Ev.congr (fun k => if_pos (m0 R)) ?_
  refine Ev.congr (fun k => if_pos (m1 R)) ?_
  refine Ev.congr (fun k => if_pos (m2 R)) ?_
  refine Ev.bind (a := R.take 20) (Ev.congr (f := fun _ => some (R.take 20)) (fun k => by rw [mn_take, List.nil_append]) (Ev.now _)) ?_
  refine Ev.bind (a := []) (Ev.now _) ?_
  refine Ev.congr (fun k => if_pos (m0 T)) ?_
  refine Ev.congr (fun k => if_pos (m1 T)) ?_
  refine Ev.congr (fun k => if_pos (m2 T)) ?_
  refine Ev.bind (a := T.take 20) (Ev.congr (f := fun _ => some (T.take 20)) (fun k => by rw [mn_take, List.nil_append]) (Ev.now _)) ?_
  generalize fewL a = L at hA ⊢
  generalize fewL b = L2 at hB ⊢
  have hl := hA.len
  have hl2 := hB.len
  have oR := ofb_size (R.take 20) M h1 (fun s hs => hR s (List.mem_of_mem_take hs))
  have oT := ofb_size (T.take 20) M h1 (fun s hs => hT s (List.mem_of_mem_take hs))
  have hM1 := may_ev L (by omega) (fun x hx => by have := hA.kids x hx; omega) hA.in64
  have hM2 := may_ev L2 (by omega) (fun x hx => by have := hB.kids x hx; omega) hB.in64
  refine Ev.bind hM1 ?_
  cases hm : mayB L with
  | false =>
    refine Ev.congr (fun k => if_neg (by decide)) ?_
    exact textsj_ev L L2 hA hB _ _ M hM oR oT false (by simp [sameB, hm])
  | true =>
    refine Ev.congr (fun k => if_pos (by rfl)) ?_
    refine Ev.bind hM2 ?_
    cases hm2 : mayB L2 with
    | false =>
      refine Ev.congr (fun k => if_neg (by decide)) ?_
      exact textsj_ev L L2 hA hB _ _ M hM oR oT false (by simp [sameB, hm, hm2])
    | true =>
      refine Ev.congr (fun k => if_pos (by rfl)) ?_
      refine Ev.bind (list_ev L L2 (by omega) (fun x hx => by have := hA.kids x hx; omega)) ?_
      exact textsj_ev L L2 hA hB _ _ M hM oR oT _ (by simp [sameB, hm, hm2])
end Go.Proofs.YtafbmlhgcmlmpaaDoor.PT
