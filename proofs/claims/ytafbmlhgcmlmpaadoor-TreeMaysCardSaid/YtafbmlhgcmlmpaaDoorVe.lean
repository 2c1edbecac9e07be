/- Chapter 22, plainly: TreeMays answers true. -/
import Derived.Test.YtafbmlhgcmlmpaaDoorVd
import Derived.Test.YtafbmlhgcmlmpaaDoorPTx8
namespace Go.Proofs.YtafbmlhgcmlmpaaDoor.PT
open Go.RowKit Go.Proofs.YtafbmlhgcmlmpaaDoorW.PrintWords Go.Proofs.YtafbmlhgcmlmpaaDoorW.PrintLast Go.Proofs.YtafbmlhgcmlmpaaDoorW.PrintMore
set_option linter.unusedVariables false
set_option linter.unusedSimpArgs false

/-- What is so of the tree that the law looks at. -/
structure Few0 (L : List S33) : Prop where
  len : L.length ≤ 300
  kids : ∀ x ∈ L, x.f5.length ≤ 300
  in64 : ∀ x ∈ L, In64 x
  few : Ev (fun k => gramaryelaw22_Few.f k L) L
theorem few0 (l : List S33) (h : ∀ x ∈ l, In64 x) : Few0 (fewL l) := ⟨few_le l, few_kids l, few_in l h, ev_eq (few_ev (fewL l)) (few_few l)⟩
theorem works_ev : Ev (fun _ : Nat => (gramaryelaw22_works.f).bind fun t => some t) true := Ev.now _
theorem last_ev (L : List S33) (h : Few0 L) (hm : mayB L = true) (hs : ∀ x ∈ L, x.f3 ≤ 1000) : ∀ (m j : Nat), (j : Int) + m = (rd_T33 L 0).f3 → Ev (fun k => gramaryelaw22_TreeMays.l1 k (placesL L) (j : Int) L) true := by
  obtain ⟨p1, p2, p3, p4, p5⟩ := may_parts L hm
  have hroot : rd_T33 L 0 ∈ L := by
    have : (0 : Int).toNat < L.length := by omega
    simp [rd_T33, p1]
  have hin := right_in _ (p4 _ hroot)
  have hF := hs _ hroot
  have hlen : (placesL L).length = (rd_T33 L 0).f3.toNat := by rw [p5, spanL_length]; simp
  intro m
  induction m with
  | zero =>
    intro j hj
    have hp : Ev (fun k => gramaryeref22_Places.f k L 100000) (placesL L) := by
      have := places_loop L (by have := h.len; omega) (fun x hx => ⟨(right_in x (p4 x hx)).2.2.1, (right_in x (p4 x hx)).2.2.2, hs x hx⟩) L.length 0 [] (by omega) (by rw [List.drop_zero]; simp only [List.length_nil]; omega)
      exact ev_eq this (by simp)
    have hend : Ev (fun k => (gramaryeref22_Places.f k L 100000).bind fun t => ((gramaryebase_SameInts.f k (placesL L) t).bind fun t2 => (if t2 = true then (if 0 < (L.length : Int) then (if ((placesL L).length : Int) = ((rd_T33 L 0).f3) then ((gramaryelaw22_works.f).bind fun t3 => (some t3)) else (some false)) else (none)) else (some false)))) true := by
      refine Ev.bind hp ?_
      refine Ev.bind (same_ev _ (by omega)) ?_
      refine Ev.congr (fun k => if_pos rfl) ?_
      refine Ev.congr (fun k => if_pos (by omega)) ?_
      refine Ev.congr (fun k => if_pos (by omega)) ?_
      exact works_ev
    refine ev_succ hend (fun k hk => ?_)
    simp only [gramaryelaw22_TreeMays.l1]
    rw [if_neg (by omega)]
    exact hk
  | succ m ih =>
    intro j hj
    have := ih (j + 1) (by omega)
    have hrd : rd (placesL L) (j : Int) = (j : Int) := by
      rw [p5]
      unfold rd spanL
      have : j < (rd_T33 L 0).f3.toNat := by omega
      simp [List.getD, this]
    refine ev_succ this (fun k hk => ?_)
    simp only [gramaryelaw22_TreeMays.l1]
    rw [if_pos (by omega), if_pos (by omega), if_pos hrd, wrapS j (by omega)]
    exact hk
theorem places_may (L : List S33) (hm : mayB L = true) (hs : ∀ x ∈ L, x.f3 ≤ 1000) : tree_Places.f L = some (placesL L) := by
  obtain ⟨p1, p2, p3, p4, p5⟩ := may_parts L hm
  unfold tree_Places.f
  rw [if_pos (fun _ x hx => ⟨(right_in x (p4 x hx)).2.2.1, (right_in x (p4 x hx)).2.2.2, by have := hs x hx; omega⟩), if_pos hm]
theorem j1_ev (L : List S33) (h : Few0 L) (hm : mayB L = true) : Ev (fun k => gramaryelaw22_TreeMays.j1 k false L) true := by
  obtain ⟨b, hb, hbs⟩ := long_ev L (by have := h.len; omega)
  have key : Ev (fun k => (gramaryelaw22_long.f k L).bind fun t => (if t = true then ((gramaryelaw22_works.f).bind fun t2 => (some t2)) else ((gramaryelaw22_Few.f k L).bind fun t3 => ((tree_Places.f t3).bind fun t4 => (gramaryelaw22_TreeMays.l1 k t4 0 L))))) true := by
    refine Ev.bind hb ?_
    cases b with
    | true => exact Ev.congr (fun k => if_pos rfl) works_ev
    | false =>
      refine Ev.congr (fun k => if_neg (by simp)) ?_
      refine Ev.bind h.few ?_
      have hs := hbs rfl
      refine Ev.congr (fun k => by rw [places_may L hm hs, Option.bind_some]) ?_
      obtain ⟨p1, p2, p3, p4, p5⟩ := may_parts L hm
      have hroot : rd_T33 L 0 ∈ L := by simp [rd_T33, p1]
      have hin := right_in _ (p4 _ hroot)
      exact last_ev L h hm hs (rd_T33 L 0).f3.toNat 0 (by omega)
  refine ev_succ key (fun k hk => ?_)
  simp only [gramaryelaw22_TreeMays.j1]
  rw [if_neg (by simp)]
  exact hk
def le2 (x : S33) : Bool := decide (x.f0 ≤ 2)
theorem clean_le2 (L : List S33) (hm : mayB L = true) : cleanB L = L.all le2 := by
  obtain ⟨p1, p2, p3, p4, p5⟩ := may_parts L hm
  unfold cleanB
  rw [hm, Bool.true_and]
  have : ∀ x ∈ L, okC x = le2 x := by
    intro x hx
    have := right_in x (p4 x hx)
    unfold okC le2
    rw [Bool.eq_iff_iff]
    simp only [Bool.or_eq_true, decide_eq_true_eq]
    omega
  rw [Bool.eq_iff_iff, List.all_eq_true, List.all_eq_true]
  constructor
  · intro z x hx; rw [← this x hx]; exact z x hx
  · intro z x hx; rw [this x hx]; exact z x hx
theorem l0_ev (L : List S33) (h : Few0 L) (hm : mayB L = true) : ∀ (m j : Nat) (b : Bool), j + m = L.length → b = (L.take j).all le2 → Ev (fun k => gramaryelaw22_TreeMays.l0 k b (j : Int) L) true
  | 0, j, b, hj, hb => by
    have hb' : cleanB L = b := by rw [hb, clean_le2 L hm, List.take_of_length_le (by omega)]
    have hl := h.len
    have key : Ev (fun k => (gramaryelaw22_Few.f k L).bind fun t => ((tree_Word.f t).bind fun t2 => ((gramaryeref22_Word.f k L).bind fun t3 => ((gramaryebase_SameInts.f k t2 t3).bind fun t4 => (if t4 = true then ((gramaryelaw22_Few.f k L).bind fun t5 => ((tree_Clean.f t5).bind fun t6 => (gramaryelaw22_TreeMays.j1 k (t6 != b) L))) else (gramaryelaw22_TreeMays.j1 k true L)))))) true := by
      refine Ev.bind h.few ?_
      refine Ev.congr (f := fun k => (gramaryeref22_Word.f k L).bind fun t3 => ((gramaryebase_SameInts.f k (wordL L) t3).bind fun t4 => (if t4 = true then ((gramaryelaw22_Few.f k L).bind fun t5 => ((tree_Clean.f t5).bind fun t6 => (gramaryelaw22_TreeMays.j1 k (t6 != b) L))) else (gramaryelaw22_TreeMays.j1 k true L)))) (fun k => by unfold tree_Word.f; rw [if_pos hm]; rfl) ?_
      refine Ev.bind (refword_ev L (by omega)) ?_
      refine Ev.bind (same_ev _ (by have := wordL_le L; omega)) ?_
      refine Ev.congr (fun k => if_pos rfl) ?_
      refine Ev.bind h.few ?_
      refine Ev.congr (f := fun k => gramaryelaw22_TreeMays.j1 k false L) (fun k => by unfold tree_Clean.f; rw [hb', Option.bind_some]; simp) ?_
      exact j1_ev L h hm
    refine ev_succ key (fun k hk => ?_)
    simp only [gramaryelaw22_TreeMays.l0]
    rw [if_neg (by omega)]
    exact hk
  | m + 1, j, b, hj, hb => by
    have hjl : j < L.length := by omega
    have hl := h.len
    have e1 : (L.take (j + 1)).all le2 = ((L.take j).all le2 && le2 L[j]) := by
      rw [List.take_succ_eq_append_getElem hjl, List.all_append]
      simp
    cases b with
    | true =>
      have ih := l0_ev L h hm m (j + 1) (le2 L[j]) (by omega) (by rw [e1, ← hb, Bool.true_and])
      refine ev_succ ih (fun k hk => ?_)
      simp only [gramaryelaw22_TreeMays.l0]
      rw [if_pos (by omega), if_pos trivial, if_pos (by omega), rd_at hjl, wrapS j (by omega)]
      exact hk
    | false =>
      have ih := l0_ev L h hm m (j + 1) false (by omega) (by rw [e1, ← hb, Bool.false_and])
      refine ev_succ ih (fun k hk => ?_)
      simp only [gramaryelaw22_TreeMays.l0]
      rw [if_pos (by omega), if_neg (by simp), wrapS j (by omega)]
      exact hk
theorem mays_ev (l : List S33) (hx : ∀ x ∈ l, In64 x) : Ev (fun k => gramaryelaw22_TreeMays.f k l) true := by
  have h := few0 l hx
  unfold gramaryelaw22_TreeMays.f
  refine Ev.bind (few_ev l) ?_
  generalize fewL l = L at h
  have hl := h.len
  refine Ev.bind h.few ?_
  have hM := may_ev L (by omega) (fun x hx => by have := h.kids x hx; omega) h.in64
  refine Ev.bind (a := if mayB L = true then 0 else 4) (Ev.now _) ?_
  refine Ev.bind hM ?_
  refine Ev.congr (fun k => if_pos rfl) ?_
  refine Ev.bind hM ?_
  cases hm : mayB L with
  | true =>
    refine Ev.congr (fun k => if_pos (by rfl)) ?_
    exact l0_ev L h hm L.length 0 true (by omega) (by simp)
  | false =>
    refine Ev.congr (fun k => if_neg (by decide)) ?_
    refine Ev.bind h.few ?_
    refine Ev.bind (a := []) (Ev.congr (f := fun _ => some []) (fun k => by unfold tree_Word.f; rw [if_neg (by simp [hm])]; rfl) (Ev.now _)) ?_
    refine Ev.bind h.few ?_
    refine Ev.bind (a := []) (Ev.congr (f := fun _ => some []) (fun k => by unfold tree_Places.f; rw [if_pos (by simp [hm]), if_neg (by simp [hm])]; rfl) (Ev.now _)) ?_
    refine Ev.congr (fun k => if_pos (by simp [wrap64])) ?_
    refine Ev.bind h.few ?_
    refine Ev.bind (a := false) (Ev.congr (f := fun _ => some false) (fun k => by simp [tree_Clean.f, cleanB, hm]) (Ev.now _)) ?_
    refine Ev.congr (fun k => if_neg (by simp)) ?_
    exact works_ev
end Go.Proofs.YtafbmlhgcmlmpaaDoor.PT
