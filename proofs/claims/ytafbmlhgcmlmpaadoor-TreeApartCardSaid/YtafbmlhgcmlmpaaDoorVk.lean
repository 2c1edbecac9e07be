/- Chapter 22, plainly: TreeApart answers true. -/
import Derived.Test.YtafbmlhgcmlmpaaDoorVj
import Derived.Test.YtafbmlhgcmlmpaaDoorVd
import Derived.Test.YtafbmlhgcmlmpaaDoorPTx14
namespace Go.Proofs.YtafbmlhgcmlmpaaDoor.PT
open Go.RowKit Go.Proofs.YtafbmlhgcmlmpaaDoorW.PrintWords Go.Proofs.YtafbmlhgcmlmpaaDoorW.PrintLast Go.Proofs.YtafbmlhgcmlmpaaDoorW.PrintMore
set_option linter.unusedVariables false
set_option linter.unusedSimpArgs false
theorem j0_up (b : Bool) (x : S33) (h3 : x.f0 ≠ 3) (h : tree_right.j0 1 b x.f0 x.f1 x.f2 x.f3 x.f4 x.f5 = some true) : tree_right.j0 1 b x.f0 (x.f1 + 1) x.f2 x.f3 x.f4 x.f5 = some true := by
  simp only [tree_right.j0] at h ⊢
  cases b with
  | true => rw [if_pos rfl] at h; cases h
  | false =>
    rw [if_neg (by simp)] at h ⊢
    by_cases k1 : x.f0 = 1
    · rw [if_pos k1] at h ⊢
      by_cases z : x.f1 ≥ 0
      · rw [if_pos z] at h
        rw [if_pos (by omega)]
        exact h
      · rw [if_neg z] at h; cases h
    rw [if_neg k1] at h ⊢
    by_cases k2 : x.f0 = 2
    · rw [if_pos k2] at h ⊢
      by_cases z : x.f1 > 0
      · rw [if_pos z] at h
        rw [if_pos (by omega)]
        exact h
      · rw [if_neg z] at h; cases h
    rw [if_neg k2, if_neg h3] at h ⊢
    by_cases k4 : x.f0 = 4
    · rw [if_pos k4] at h ⊢
      by_cases z : x.f1 > 0
      · rw [if_pos z] at h
        rw [if_pos (by omega)]
        exact h
      · rw [if_neg z] at h; cases h
    rw [if_neg k4] at h ⊢
    by_cases k5 : x.f0 = 5
    · rw [if_pos k5] at h ⊢
      by_cases z : x.f1 ≥ 0
      · rw [if_pos z] at h
        rw [if_pos (by omega)]
        exact h
      · rw [if_neg z] at h; cases h
    · rw [if_neg k5] at h; cases h
theorem right_up (x : S33) (h3 : x.f0 ≠ 3) (h : rightB x = true) : rightB (upN x) = true := by
  have hi := right_in x h
  have hR := right_f x
  rw [h] at hR
  have goal : tree_right.f 1 (upN x).f0 (upN x).f1 (upN x).f2 (upN x).f3 (upN x).f4 (upN x).f5 = some true := by
    show tree_right.f 1 x.f0 (x.f1 + 1) x.f2 x.f3 x.f4 x.f5 = some true
    unfold tree_right.f at hR ⊢
    rw [if_neg (by omega), if_neg (by omega)] at hR ⊢
    by_cases hl : x.f4.toList = []
    · rw [if_pos hl] at hR ⊢
      by_cases h0 : x.f0 = 1
      · rw [if_pos h0] at hR ⊢
        exact j0_up _ x h3 hR
      · rw [if_neg h0] at hR ⊢
        exact j0_up _ x h3 hR
    · rw [if_neg hl] at hR ⊢
      unfold name_Name.f at hR ⊢
      rw [Option.bind_some] at hR ⊢
      by_cases hn : nameB x.f4 = true
      · rw [if_pos hn] at hR ⊢
        by_cases h0 : x.f0 = 1
        · rw [if_pos h0] at hR ⊢
          exact j0_up _ x h3 hR
        · rw [if_neg h0] at hR ⊢
          exact j0_up _ x h3 hR
      · rw [if_neg hn] at hR ⊢
        exact j0_up _ x h3 hR
  exact Option.some.inj ((right_f (upN x)).symm.trans goal)
def Alike (a b : S33) : Prop := rightB a = rightB b ∧ a.f2 = b.f2 ∧ a.f3 = b.f3 ∧ a.f5 = b.f5
theorem kids_alike (l m : List S33) (hl : l.length = m.length) (ha : ∀ j, Alike (rd_T33 l j) (rd_T33 m j)) (f g : Int → Int → Option (Bool × Int)) (hf : ∀ i nx, f i nx = g i nx) : ∀ (ks : List Int) (at_ nx : Int), kidsF l f ks at_ nx = kidsF m g ks at_ nx
  | [], at_, nx => rfl
  | k :: ks, at_, nx => by
    simp only [kidsF]
    rw [hl, (ha k).2.1, (ha k).2.2.1, hf]
    have : ∀ a b, kidsF l f ks a b = kidsF m g ks a b := fun a b => kids_alike l m hl ha f g hf ks a b
    simp only [this]
theorem chk_alike (l m : List S33) (hl : l.length = m.length) (ha : ∀ j, Alike (rd_T33 l j) (rd_T33 m j)) : ∀ (n : Nat) (i nx : Int), chk n l i nx = chk n m i nx
  | 0, i, nx => rfl
  | n + 1, i, nx => by
    unfold chk
    obtain ⟨a1, a2, a3, a4⟩ := ha i
    rw [hl, a1, a2, a3, a4, kids_alike l m hl ha (chk n l) (chk n m) (chk_alike l m hl ha n)]
theorem eqS_self (x : S33) : eqS x x = true := by simp [eqS]
theorem allS_self : ∀ l : List S33, allS l l = true
  | [] => rfl
  | x :: xs => by simp only [allS]; rw [eqS_self, allS_self xs]; rfl
theorem allS_rd : ∀ (l m : List S33), allS l m = true → ∀ j : Nat, eqS (rd_T33 l (j : Int)) (rd_T33 m (j : Int)) = true
  | [], [], h, j => eqS_self _
  | x :: xs, [], h, j => by cases h
  | [], y :: ys, h, j => by cases h
  | x :: xs, y :: ys, h, j => by
    simp only [allS, Bool.and_eq_true] at h
    cases j with
    | zero => exact h.1
    | succ j =>
      have := allS_rd xs ys h.2 j
      have e : ∀ (z : S33) (zs : List S33), rd_T33 (z :: zs) ((j + 1 : Nat) : Int) = rd_T33 zs (j : Int) := fun z zs => by simp [rd_T33]
      rw [e, e]
      exact this
theorem rd_set (l : List S33) (p : Nat) (hp : p < l.length) (v : S33) (j : Int) : rd_T33 (l.set p v) j = if j.toNat = p then v else rd_T33 l j := by
  unfold rd_T33
  by_cases e : j.toNat = p
  · rw [if_pos e]
    simp [List.getD, e, hp]
  · rw [if_neg e]
    simp [List.getD, List.getElem?_set, Ne.symm e]
def rules50 : List ByteArray := (List.range 50).map fun (n : Nat) => (⟨#[114]⟩ : ByteArray) ++ itoaB (n : Int)
def toks50 : List ByteArray := (List.range 50).map fun (n : Nat) => (⟨#[84]⟩ : ByteArray) ++ itoaB (n : Int)
theorem rules_apart : ∀ n : Fin 40, (ofB rules50 ((n.val : Nat) : Int)).data.toList ≠ (ofB rules50 (((n.val : Nat) : Int) + 1)).data.toList := by decide +kernel
theorem toks_apart : ∀ n : Fin 40, 0 < n.val → (ofB toks50 (wrap64 (((n.val : Nat) : Int) - 1))).data.toList ≠ (ofB toks50 (wrap64 (((n.val : Nat) : Int) + 1 - 1))).data.toList := by decide +kernel
theorem itoa_apart : ∀ n : Fin 40, (itoaB ((n.val : Nat) : Int)).data.toList ≠ (itoaB (((n.val : Nat) : Int) + 1)).data.toList := by decide +kernel
theorem rules50_le : ∀ s ∈ rules50, s.size ≤ 100 := by decide +kernel
theorem toks50_le : ∀ s ∈ toks50, s.size ≤ 100 := by decide +kernel
theorem num_apart (x : S33) (h : rightB x = true) (h3 : x.f0 ≠ 3) (h40 : ¬ x.f1 ≥ 40) : numT rules50 toks50 x ≠ numT rules50 toks50 (upN x) := by
  have hi := right_in x h
  obtain ⟨n1, n2, n3, n4, n5⟩ := right_num x h
  have h0 : 0 ≤ x.f1 := by
    by_cases k1 : x.f0 = 1
    · exact n1 k1
    by_cases k2 : x.f0 = 2
    · have := n2 k2; omega
    by_cases k4 : x.f0 = 4
    · have := n4 k4; omega
    · exact n5 (by omega)
  obtain ⟨m, hm⟩ : ∃ m : Nat, x.f1 = m := ⟨x.f1.toNat, by omega⟩
  unfold numT
  have e0 : (upN x).f0 = x.f0 := rfl
  have e1 : (upN x).f1 = x.f1 + 1 := rfl
  rw [e0, e1]
  by_cases k1 : x.f0 = 1
  · rw [if_pos k1, if_pos k1, hm]
    exact rules_apart ⟨m, by omega⟩
  rw [if_neg k1, if_neg k1]
  by_cases k2 : x.f0 = 2 ∨ x.f0 = 4
  · rw [if_pos k2, if_pos k2, hm]
    have : 0 < x.f1 := k2.elim n2 n4
    exact toks_apart ⟨m, by omega⟩ (by show 0 < m; omega)
  · rw [if_neg k2, if_neg k2, hm]
    exact itoa_apart ⟨m, by omega⟩
structure FewA (L : List S33) : Prop where
  len : L.length ≤ 300
  kids : ∀ x ∈ L, x.f5.length ≤ 300
  num : ∀ x ∈ L, Num64 x
  few : Ev (fun k => gramaryelaw22_Few.f k L) L
theorem fewA (l : List S33) (h2 : ∀ x ∈ l, Num64 x) : FewA (fewL l) := ⟨few_le l, few_kids l, fun x hx => by
  obtain ⟨y, hy, rfl⟩ := List.mem_map.1 hx
  exact h2 y (List.mem_of_mem_take hy), ev_eq (few_ev (fewL l)) (few_few l)⟩
theorem bl_ne {a b : List UInt8} (h : a ≠ b) : ((⟨a.toArray⟩ : ByteArray).toList != (⟨b.toArray⟩ : ByteArray).toList) = true := by
  rw [bne_iff_ne]
  intro e
  rw [ByteArray.toList_eq, ByteArray.toList_eq] at e
  exact h e
theorem apart_loop (L y : List S33) (hend : Ev (fun k => (tree_May.f y).bind fun t319 => (if t319 = 0 then ((tree_Same.f L y).bind fun t320 => (if t320 = true then (some false) else ((tree_Text.f L rules50 toks50).bind fun t321 => ((tree_Text.f y rules50 toks50).bind fun t322 => (some (t321.toList != t322.toList)))))) else (some false))) true) :
    ∀ (m j : Nat) (R T : List ByteArray), j + m = 50 → R = (List.range j).map (fun (n : Nat) => (⟨#[114]⟩ : ByteArray) ++ itoaB (n : Int)) → T = (List.range j).map (fun (n : Nat) => (⟨#[84]⟩ : ByteArray) ++ itoaB (n : Int)) → Ev (fun k => gramaryelaw22_TreeApart.l0 k R T (j : Int) L y) true
  | 0, j, R, T, hj, hR, hT => by
    obtain rfl : j = 50 := by omega
    have eR : R = rules50 := hR
    have eT : T = toks50 := hT
    rw [eR, eT]
    refine ev_succ hend (fun k hk => ?_)
    simp only [gramaryelaw22_TreeApart.l0]
    rw [if_neg (by omega)]
    exact hk
  | m + 1, j, R, T, hj, hR, hT => by
    have i1 := itoa_ev (j : Int) (by omega) (by omega)
    have s1 := itoa_size (j : Int) (by omega) (by omega)
    have ih := apart_loop L y hend m (j + 1) (R ++ [(⟨#[114]⟩ : ByteArray) ++ itoaB (j : Int)]) (T ++ [(⟨#[84]⟩ : ByteArray) ++ itoaB (j : Int)]) (by omega) (by rw [hR, List.range_succ, List.map_append]; rfl) (by rw [hT, List.range_succ, List.map_append]; rfl)
    have lR : R.length = j := by rw [hR]; simp
    have lT : T.length = j := by rw [hT]; simp
    obtain ⟨K1, h1⟩ := i1
    obtain ⟨K2, h2⟩ := ih
    refine ⟨max K1 K2 + 1, fun k hk => ?_⟩
    obtain ⟨m', rfl⟩ : ∃ m', k = m' + 1 := ⟨k - 1, by omega⟩
    have z1 : gramaryebase_Itoa.f m' (j : Int) = some (itoaB (j : Int)) := h1 m' (by omega)
    simp only [gramaryelaw22_TreeApart.l0]
    rw [if_pos (by omega), z1, Option.bind_some, if_pos (by omega), if_pos (by omega), Option.bind_some, if_pos (by omega), if_pos (by omega), wrapS j (by omega)]
    exact h2 m' (by omega)
theorem among_ev (a : Int) (n : Nat) (h0 : 0 < n) (h1 : n ≤ 300) : ∃ i : Nat, i < n ∧ gramaryebase_Among.f a (n : Int) = some (i : Int) := by
  have hu : ∀ z : Int, IntKind.u64.wrap z = z % 18446744073709551616 := fun z => by
    unfold IntKind.wrap
    simp [IntKind.bits, IntKind.signed]
  unfold gramaryebase_Among.f
  rw [if_neg (by omega), hu, hu, if_neg (by omega)]
  have e : (n : Int) % 18446744073709551616 = (n : Int) := by omega
  rw [e]
  have hq : 0 ≤ a % 18446744073709551616 := by omega
  generalize a % 18446744073709551616 = q at hq
  rw [Int.tmod_eq_emod_of_nonneg hq]
  have b0 := Int.emod_nonneg q (show (n : Int) ≠ 0 by omega)
  have b1 := Int.emod_lt_of_pos q (show (0 : Int) < (n : Int) by omega)
  refine ⟨(q % (n : Int)).toNat, by omega, ?_⟩
  congr 1
  unfold wrap64
  omega
theorem ofbA_size' (R : List ByteArray) (M : Nat) (hM : 1 ≤ M) (h : ∀ s ∈ R, s.size ≤ M) (i : Int) : (ofB R i).size ≤ M := by
  unfold ofB tree_of.f
  have q : ((⟨#[63]⟩ : ByteArray)).size = 1 := rfl
  split
  · show ((⟨#[63]⟩ : ByteArray)).size ≤ M
    omega
  · split
    · show ((⟨#[63]⟩ : ByteArray)).size ≤ M
      omega
    · split
      · split
        · rename_i hi
          show (rdOf ByteArray.empty R i).size ≤ M
          have hi' : i.toNat < R.length := by omega
          refine h _ ?_
          simp [rdOf, hi']
        · exact Nat.zero_le _
      · exact Nat.zero_le _
theorem ofbA_size (R : List ByteArray) (h : ∀ s ∈ R, s.size ≤ 100) (i : Int) : (ofB R i).size ≤ 100 := ofbA_size' R 100 (by omega) h i
theorem apart_ev (l : List S33) (a : Int) (hx : ∀ x ∈ l, Num64 x) : Ev (fun k => gramaryelaw22_TreeApart.f k l a) true := by
  have h := fewA l hx
  unfold gramaryelaw22_TreeApart.f
  refine Ev.bind (a := true) (Ev.now _) ?_
  refine Ev.congr (fun k => if_pos rfl) ?_
  refine Ev.bind (few_ev l) ?_
  generalize fewL l = L at h ⊢
  have hl := h.len
  refine Ev.bind (a := if mayB L = true then 0 else 4) (Ev.now _) ?_
  cases hm : mayB L with
  | false =>
    refine Ev.congr (fun k => if_neg (by decide)) ?_
    refine Ev.bind (a := false) (Ev.congr (f := fun _ => some false) (fun k => by simp [tree_Same.f, sameB, hm]) (Ev.now _)) ?_
    exact Ev.now _
  | true =>
    refine Ev.congr (fun k => if_pos (by rfl)) ?_
    refine Ev.bind h.few ?_
    obtain ⟨p1, p2, p3, p4, p5⟩ := may_parts L hm
    obtain ⟨i, hi, hai⟩ := among_ev a L.length p1 hl
    refine Ev.bind (a := (i : Int)) (Ev.congr (f := fun _ => some (i : Int)) (fun k => hai) (Ev.now _)) ?_
    refine Ev.congr (fun k => if_pos (by omega)) ?_
    refine Ev.congr (fun k => if_pos (by omega)) ?_
    have hmem : rd_T33 L (i : Int) ∈ L := by simp [rd_T33, hi]
    have hr := p4 _ hmem
    obtain ⟨n1, n2, n3, n4, n5⟩ := right_num _ hr
    have hin := right_in _ hr
    have hn := hx
    by_cases h40 : (rd_T33 L (i : Int)).f1 ≥ 40
    · refine Ev.congr (fun k => if_pos h40) ?_
      exact Ev.now _
    · refine Ev.congr (fun k => if_neg h40) ?_
      have hw : wrap64 ((rd_T33 L (i : Int)).f1 + 1) = (rd_T33 L (i : Int)).f1 + 1 := by
        have h0 : 0 ≤ (rd_T33 L (i : Int)).f1 := by
          by_cases k1 : (rd_T33 L (i : Int)).f0 = 1
          · exact n1 k1
          by_cases k2 : (rd_T33 L (i : Int)).f0 = 2
          · have := n2 k2; omega
          by_cases k3 : (rd_T33 L (i : Int)).f0 = 3
          · have := n3 k3; omega
          by_cases k4 : (rd_T33 L (i : Int)).f0 = 4
          · have := n4 k4; omega
          · exact n5 (by omega)
        unfold wrap64
        omega
      obtain ⟨y, hy⟩ : ∃ y, y = L.set i (upN (rd_T33 L (i : Int))) := ⟨_, rfl⟩
      refine Ev.bind (a := y) (Ev.congr (f := fun _ => some y) (fun k => by rw [hy, hw, Int.toNat_natCast]; rfl) (Ev.now _)) ?_
      have hylen : y.length = L.length := by rw [hy, List.length_set]
      have hyi : rd_T33 y (i : Int) = upN (rd_T33 L (i : Int)) := by rw [hy, rd_set L i hi, if_pos (by simp)]
      have hyo : ∀ j : Int, j.toNat ≠ i → rd_T33 y j = rd_T33 L j := fun j hj => by rw [hy, rd_set L i hi, if_neg hj]
      have e0 : (rd_T33 y (i : Int)).f0 = (rd_T33 L (i : Int)).f0 := by rw [hyi]; rfl
      by_cases h3 : (rd_T33 L (i : Int)).f0 = 3
      · refine Ev.congr (fun k => if_pos (by rw [e0]; exact h3)) ?_
        have hym : mayB y = false := by
          cases hc : mayB y with
          | false => rfl
          | true =>
            exfalso
            obtain ⟨q1, q2, q3, q4, q5⟩ := may_parts y hc
            have hmem2 : rd_T33 y (i : Int) ∈ y := by
              have : i < y.length := by omega
              simp [rd_T33, this]
            have hr2 := q4 _ hmem2
            have z1 := (right_num _ hr2).2.2.1 (by rw [e0]; exact h3)
            rw [hyi] at z1
            have z2 : (upN (rd_T33 L (i : Int))).f1 = (rd_T33 L (i : Int)).f1 + 1 := rfl
            have := n3 h3
            omega
        refine Ev.bind (a := 4) (Ev.congr (f := fun _ => some 4) (fun k => by simp [tree_May.f, hym]) (Ev.now _)) ?_
        refine Ev.congr (fun k => if_pos rfl) ?_
        refine Ev.bind (a := true) (Ev.congr (f := fun _ => some true) (fun k => by simp [tree_Same.f, sameB, hm, allS_self]) (Ev.now _)) ?_
        exact Ev.now _
      · refine Ev.congr (fun k => if_neg (by rw [e0]; exact h3)) ?_
        have hal : ∀ j, Alike (rd_T33 y j) (rd_T33 L j) := fun j => by
          by_cases hj : j.toNat = i
          · have : rd_T33 y j = upN (rd_T33 L (i : Int)) := by rw [hy, rd_set L i hi, if_pos hj]
            have e2 : rd_T33 L j = rd_T33 L (i : Int) := by unfold rd_T33; rw [hj, Int.toNat_natCast]
            rw [this, e2]
            exact ⟨by rw [right_up _ h3 hr, hr], rfl, rfl, rfl⟩
          · rw [hyo j hj]
            exact ⟨rfl, rfl, rfl, rfl⟩
        have hchk := chk_alike y L hylen hal
        have f00 : (rd_T33 y 0).f0 = (rd_T33 L 0).f0 := by
          by_cases hj : (0 : Int).toNat = i
          · have z : i = 0 := by simpa using hj.symm
            subst z
            exact e0
          · rw [hyo 0 hj]
        have hym : mayB y = true := by
          have hm' := hm
          unfold mayB chkB at hm' ⊢
          rw [hylen, hchk, f00, (hal 0).2.1]
          exact hm'
        have hmy : tree_May.f y = some 0 := by simp [tree_May.f, hym]
        have hsame : tree_Same.f L y = some false := by
          have : allS L y = false := by
            cases hc : allS L y with
            | false => rfl
            | true =>
              have := allS_rd _ _ hc i
              rw [hyi] at this
              simp [eqS, upN] at this
              omega
          simp [tree_Same.f, sameB, hm, hym, this]
        have hynum : ∀ x ∈ y, Num64 x := fun x hxy => by
          obtain ⟨j, hj, rfl⟩ := List.getElem_of_mem hxy
          have e2 : y[j] = rd_T33 y (j : Int) := by simp [rd_T33, hj]
          rw [e2]
          by_cases hji : j = i
          · subst hji
            rw [hyi]
            have := h.num _ hmem
            exact ⟨by show (rd_T33 L (j : Int)).f1 + 1 ≤ 9223372036854775807; omega, this.2.1, this.2.2⟩
          · rw [hyo (j : Int) (by simpa using hji)]
            exact h.num _ (by simp [rd_T33, show j < L.length by omega])
        have oR := ofbA_size rules50 rules50_le
        have oT := ofbA_size toks50 toks50_le
        obtain ⟨s, a1, a2, a3⟩ := text_may L rules50 toks50 100 (by omega) oR oT h.num hm
        obtain ⟨t, b1, b2, b3⟩ := text_may y rules50 toks50 100 (by omega) oR oT hynum hym
        have ts : tree_Text.f L rules50 toks50 = some ⟨s.toArray⟩ := by unfold tree_Text.f; rw [if_pos hm, a1, Option.bind_some, if_pos ⟨a2, a3⟩]
        have tt : tree_Text.f y rules50 toks50 = some ⟨t.toArray⟩ := by unfold tree_Text.f; rw [if_pos hym, b1, Option.bind_some, if_pos ⟨b2, b3⟩]
        have hne : s ≠ t := by
          have hmc := hm
          simp only [mayB, Bool.and_eq_true, decide_eq_true_eq] at hmc
          have h5 := hmc.2
          obtain ⟨r, hrr⟩ := chk_some L
          unfold chkB at h5
          rw [hrr] at h5
          obtain ⟨b, nx⟩ := r
          cases b with
          | false => cases h5
          | true =>
            simp only [decide_eq_true_eq] at h5
            subst h5
            rw [hylen] at b1
            have := node_part L y rules50 toks50 (i : Int) (fun j z1 z2 z3 => hyo j (by omega)) hyi h3 _ 0 0 _ s t (by omega) (by omega) hrr a1 b1
            exact (this.2 ⟨by omega, by omega⟩).ne (num_apart _ hr h3 h40)
        refine apart_loop L y ?_ 50 0 [] [] (by omega) rfl rfl
        refine Ev.bind (a := 0) (Ev.congr (f := fun _ => some 0) (fun k => hmy) (Ev.now _)) ?_
        refine Ev.congr (fun k => if_pos rfl) ?_
        refine Ev.bind (a := false) (Ev.congr (f := fun _ => some false) (fun k => hsame) (Ev.now _)) ?_
        refine Ev.congr (fun k => if_neg (by simp)) ?_
        refine Ev.bind (a := ⟨s.toArray⟩) (Ev.congr (f := fun _ => some ⟨s.toArray⟩) (fun k => ts) (Ev.now _)) ?_
        refine Ev.bind (a := ⟨t.toArray⟩) (Ev.congr (f := fun _ => some ⟨t.toArray⟩) (fun k => tt) (Ev.now _)) ?_
        exact Ev.congr (f := fun _ => some true) (fun k => by rw [bl_ne hne]) (Ev.now _)
end Go.Proofs.YtafbmlhgcmlmpaaDoor.PT
