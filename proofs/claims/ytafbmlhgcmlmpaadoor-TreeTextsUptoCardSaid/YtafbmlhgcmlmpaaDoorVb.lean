/- Chapter 22, plainly: below is chk; what is so of every node of a tree that may be. -/
import Derived.Test.YtafbmlhgcmlmpaaDoorVa
namespace Go.Proofs.YtafbmlhgcmlmpaaDoor.PT
open Go.RowKit Go.Proofs.YtafbmlhgcmlmpaaDoorW.PrintWords Go.Proofs.YtafbmlhgcmlmpaaDoorW.PrintLast Go.Proofs.YtafbmlhgcmlmpaaDoorW.PrintMore
set_option linter.unusedVariables false
set_option linter.unusedSimpArgs false
theorem kidsF_range (l : List S33) (f : Int → Int → Option (Bool × Int)) (hf : ∀ (i nx : Int) (r : Bool × Int), 0 ≤ nx → nx ≤ l.length → f i nx = some r → nx ≤ r.2 ∧ r.2 ≤ l.length) : ∀ (ks : List Int) (at_ nx : Int) r, 0 ≤ nx → nx ≤ l.length → kidsF l f ks at_ nx = some r → nx ≤ r.2 ∧ r.2 ≤ l.length
  | [], at_, nx, r, h, h1, hr => by
    obtain rfl := Option.some.inj hr
    exact ⟨Int.le_refl _, h1⟩
  | k :: ks, at_, nx, r, h, h1, hr => by
    simp only [kidsF] at hr
    split at hr
    · obtain rfl := Option.some.inj hr
      exact ⟨Int.le_refl _, h1⟩
    · obtain ⟨q, hq, hr⟩ := Option.bind_eq_some_iff.1 hr
      have h2 := hf _ _ _ h h1 hq
      split at hr
      · have := kidsF_range l f hf ks _ _ r (by omega) h2.2 hr
        omega
      · obtain rfl := Option.some.inj hr
        exact h2
theorem chk_range : ∀ (n : Nat) (l : List S33) (i nx : Int) r, 0 ≤ nx → nx ≤ l.length → chk n l i nx = some r → nx ≤ r.2 ∧ r.2 ≤ l.length
  | 0, l, i, nx, r, h, h1, hr => by cases hr
  | n + 1, l, i, nx, r, h, h1, hr => by
    unfold chk at hr
    split at hr
    · obtain rfl := Option.some.inj hr
      exact ⟨Int.le_refl _, h1⟩
    · split at hr
      · obtain rfl := Option.some.inj hr
        exact ⟨Int.le_refl _, h1⟩
      · split at hr
        · obtain rfl := Option.some.inj hr
          exact ⟨Int.le_refl _, h1⟩
        · obtain ⟨q, hq, hr⟩ := Option.bind_eq_some_iff.1 hr
          have h2 := kidsF_range l (chk n l) (fun i nx r a b c => chk_range n l i nx r a b c) _ _ _ _ (by omega) (by omega) hq
          obtain rfl := Option.some.inj hr
          cases q.1 <;> (simp only; omega)
def outB (i : Int) (r : Bool × Int) : Int := if r.1 = true then r.2 - i else -1
def endB (x : S33) (i : Int) (r : Option Int × Int) : Int := match r.1 with
  | none => -1
  | some a => if x.f5.length = 0 ∨ a = x.f3 then r.2 - i else -1
theorem bad_ev (l : List S33) (x : S33) (i nx j : Int) : Ev (fun k => gramaryeref22_below.j2 k i nx j true l x.f0 x.f1 x.f2 x.f3 x.f4 x.f5) (-1) :=
  ev_here (fun k => by simp only [gramaryeref22_below.j2]; rw [if_pos trivial])
theorem kids_ev (l : List S33) (hl : l.length ≤ 1000000) (n : Nat) (x : S33) (i : Int) (hi0 : 0 ≤ i) (hi1 : i < l.length) (hf : x.f5.length ≤ 1000000)
    (ih : ∀ (i : Int) r, 0 ≤ i → i ≤ l.length → chk n l i i = some r → Ev (fun k => gramaryeref22_below.f k l i) (outB i r)) :
    ∀ (ks : List Int) (j : Nat) (at_ nx : Int) (r : Option Int × Int), ks = x.f5.drop j → j ≤ x.f5.length → i < nx → nx ≤ l.length → kidsF l (chk n l) ks at_ nx = some r →
      Ev (fun k => gramaryeref22_below.l0 k i nx at_ (j : Int) l x.f0 x.f1 x.f2 x.f3 x.f4 x.f5) (endB x i r)
  | [], j, at_, nx, r, hks, hj, h0, h1, h => by
    obtain rfl := Option.some.inj h
    have hjl : j = x.f5.length := by
      have := congrArg List.length hks
      simp at this
      omega
    subst hjl
    refine ev_here (fun k => ?_)
    simp only [gramaryeref22_below.l0]
    rw [if_neg (by omega)]
    have hw : wrap64 (nx - i) = nx - i := by unfold wrap64; omega
    rw [hw]
    show _ = some (if x.f5.length = 0 ∨ at_ = x.f3 then nx - i else -1)
    by_cases ha : at_ = x.f3
    · rw [if_pos ha, if_pos (.inr ha)]
    · rw [if_neg ha]
      by_cases hz : x.f5.length = 0
      · rw [if_neg (by omega), if_pos (.inl hz)]
      · rw [if_pos (by omega), if_neg (by simp [ha, hz])]
  | kk :: ks, j, at_, nx, r, hks, hj, h0, h1, h => by
    have hjl : j < x.f5.length := by
      rcases Nat.lt_or_ge j x.f5.length with h' | h'
      · exact h'
      · rw [List.drop_eq_nil_of_le h'] at hks
        cases hks
    rw [drop_rd hjl] at hks
    injection hks with hk hks
    have e1 : ((j : Int) < (x.f5.length : Int)) := by omega
    have e2 : (0 : Int) ≤ (j : Int) := by omega
    simp only [kidsF] at h
    by_cases hkn : kk = nx
    · have hrd : rd x.f5 (j : Int) = nx := by rw [← hk]; exact hkn
      subst hkn
      by_cases hge : kk ≥ (l.length : Int)
      · rw [if_pos (.inl hge)] at h
        obtain rfl := Option.some.inj h
        refine ev_succ (bad_ev l x i kk j) (fun k hk => ?_)
        simp only [gramaryeref22_below.l0]
        rw [if_pos e1, if_pos e2, if_pos hrd, if_pos hge]
        exact hk
      · by_cases hat : (rd_T33 l kk).f2 = at_
        · rw [if_neg (by rintro (z | z | z) <;> first | omega | exact z hat)] at h
          obtain ⟨q, hq, h⟩ := Option.bind_eq_some_iff.1 h
          have hb := ih kk q (by omega) (by omega) hq
          have hqr := chk_range n l kk kk q (by omega) (by omega) hq
          have hnb : ((rd_T33 l kk).f2 != at_) = false := by simp [hat]
          have start : ∀ v, Ev (fun k => gramaryeref22_below.j2 k i kk (j : Int) false l x.f0 x.f1 x.f2 x.f3 x.f4 x.f5) v → Ev (fun k => gramaryeref22_below.l0 k i kk at_ (j : Int) l x.f0 x.f1 x.f2 x.f3 x.f4 x.f5) v := by
            intro v hv
            refine ev_succ hv (fun k hk => ?_)
            simp only [gramaryeref22_below.l0]
            rw [if_pos e1, if_pos e2, if_pos hrd, if_neg hge, if_pos (show (0 : Int) ≤ kk by omega), if_pos (show kk < (l.length : Int) by omega), hnb]
            exact hk
          refine start _ ?_
          cases hq1 : q.1 with
          | false =>
            rw [if_neg (by simp [hq1])] at h
            obtain rfl := Option.some.inj h
            have ho : outB kk q = -1 := by simp [outB, hq1]
            rw [ho] at hb
            refine ev_succ hb (fun k hk => ?_)
            have hk' : gramaryeref22_below.f k l kk = some (-1) := hk
            simp only [gramaryeref22_below.j2]
            rw [if_neg (by simp), hk', Option.bind_some, if_pos (show (-1 : Int) < 0 by decide)]
            rfl
          | true =>
            rw [if_pos hq1] at h
            have ho : outB kk q = q.2 - kk := by simp [outB, hq1]
            rw [ho] at hb
            have hrec := kids_ev l hl n x i hi0 hi1 hf ih ks (j + 1) (rd_T33 l kk).f3 q.2 r hks (by omega) (by omega) hqr.2 h
            obtain ⟨K1, hK1⟩ := hb
            obtain ⟨K2, hK2⟩ := hrec
            refine ⟨max K1 K2 + 1, fun k hk => ?_⟩
            obtain ⟨m, rfl⟩ : ∃ m, k = m + 1 := ⟨k - 1, by omega⟩
            have z1 : gramaryeref22_below.f m l kk = some (q.2 - kk) := hK1 m (by omega)
            simp only [gramaryeref22_below.j2]
            have hw : wrap64 (kk + (q.2 - kk)) = q.2 := by unfold wrap64; omega
            have hw2 : wrap64 ((j : Int) + 1) = ((j + 1 : Nat) : Int) := wrapS j (by omega)
            rw [if_neg (by simp), z1, Option.bind_some, if_neg (show ¬ q.2 - kk < 0 by omega), if_pos (show (0 : Int) ≤ kk by omega), if_pos (show kk < (l.length : Int) by omega), hw, hw2]
            exact hK2 m (by omega)
        · rw [if_pos (.inr (.inr hat))] at h
          obtain rfl := Option.some.inj h
          have hnb : ((rd_T33 l kk).f2 != at_) = true := by simp [hat]
          refine ev_succ (bad_ev l x i kk j) (fun k hk => ?_)
          simp only [gramaryeref22_below.l0]
          rw [if_pos e1, if_pos e2, if_pos hrd, if_neg hge, if_pos (show (0 : Int) ≤ kk by omega), if_pos (show kk < (l.length : Int) by omega), hnb]
          exact hk
    · have hrd : ¬ rd x.f5 (j : Int) = nx := by rw [← hk]; exact hkn
      have hr : r.1 = none := by
        split at h
        · obtain rfl := Option.some.inj h
          rfl
        · obtain ⟨q, hq, h⟩ := Option.bind_eq_some_iff.1 h
          cases n with
          | zero => cases hq
          | succ n =>
            unfold chk at hq
            rw [if_pos hkn] at hq
            obtain rfl := Option.some.inj hq
            rw [if_neg (by simp)] at h
            obtain rfl := Option.some.inj h
            rfl
      have he : endB x i r = -1 := by simp [endB, hr]
      rw [he]
      refine ev_succ (bad_ev l x i nx j) (fun k hk => ?_)
      simp only [gramaryeref22_below.l0]
      rw [if_pos e1, if_pos e2, if_neg hrd]
      exact hk
theorem below_ev (l : List S33) (hl : l.length ≤ 1000000) (hf : ∀ x ∈ l, x.f5.length ≤ 1000000) (hx : ∀ x ∈ l, In64 x) : ∀ (n : Nat) (i : Int) r, 0 ≤ i → i ≤ l.length → chk n l i i = some r → Ev (fun k => gramaryeref22_below.f k l i) (outB i r)
  | 0, i, r, h0, h1, h => by cases h
  | n + 1, i, r, h0, h1, h => by
    unfold chk at h
    rw [if_neg (by simp)] at h
    by_cases hge : i ≥ (l.length : Int)
    · rw [if_pos hge] at h
      obtain rfl := Option.some.inj h
      refine ev_succ (f := fun k => gramaryeref22_below.j0 k i true l) (ev_here (fun k => by simp only [gramaryeref22_below.j0]; rw [if_pos trivial]; rfl)) (fun k hk => ?_)
      simp only [gramaryeref22_below.f]
      rw [if_neg (by omega), if_pos hge]
      exact hk
    · rw [if_neg hge] at h
      have hm : rd_T33 l i ∈ l := by
        have : i.toNat < l.length := by omega
        simp [rd_T33, this]
      have hR := right_ev (rd_T33 l i) (hx _ hm)
      have hfl := hf _ hm
      have start : ∀ v, Ev (fun k => gramaryeref22_below.j0 k i (!rightB (rd_T33 l i)) l) v → Ev (fun k => gramaryeref22_below.f k l i) v := by
        intro v hv
        obtain ⟨K1, hK1⟩ := hR
        obtain ⟨K2, hK2⟩ := hv
        refine ⟨max K1 K2 + 1, fun k hk => ?_⟩
        obtain ⟨m, rfl⟩ : ∃ m, k = m + 1 := ⟨k - 1, by omega⟩
        have z1 : gramaryeref22_right.f m (rd_T33 l i).f0 (rd_T33 l i).f1 (rd_T33 l i).f2 (rd_T33 l i).f3 (rd_T33 l i).f4 (rd_T33 l i).f5 = some (rightB (rd_T33 l i)) := hK1 m (by omega)
        simp only [gramaryeref22_below.f]
        rw [if_neg (by omega), if_neg hge, if_pos h0, if_pos (by omega), z1, Option.bind_some]
        exact hK2 m (by omega)
      refine start _ ?_
      by_cases hr : rightB (rd_T33 l i) = false
      · rw [if_pos hr] at h
        obtain rfl := Option.some.inj h
        rw [hr]
        exact ev_here (fun k => by simp only [gramaryeref22_below.j0]; rw [if_pos (by rfl)]; rfl)
      · rw [if_neg hr] at h
        obtain ⟨q, hq, h⟩ := Option.bind_eq_some_iff.1 h
        have hk := kids_ev l hl n (rd_T33 l i) i h0 (by omega) hfl (fun i r a b c => below_ev l hl hf hx n i r a b c) (rd_T33 l i).f5 0 (rd_T33 l i).f2 (i + 1) q rfl (by omega) (by omega) (by omega) hq
        have hrt : rightB (rd_T33 l i) = true := by simpa using hr
        have he : endB (rd_T33 l i) i q = outB i r := by
          have := Option.some.inj h
          rw [← this]
          unfold endB outB
          cases q.1 with
          | none => rfl
          | some a => simp only [Bool.or_eq_true, decide_eq_true_eq]
        rw [he] at hk
        refine ev_succ hk (fun k hk => ?_)
        simp only [gramaryeref22_below.j0]
        have hw : wrap64 (i + 1) = i + 1 := by unfold wrap64; omega
        rw [if_neg (by simp [hrt]), if_pos h0, if_pos (by omega), hw]
        exact hk
theorem may_ev (l : List S33) (hl : l.length ≤ 1000000) (hf : ∀ x ∈ l, x.f5.length ≤ 1000000) (hx : ∀ x ∈ l, In64 x) : Ev (fun k => gramaryeref22_May.f k l) (if mayB l = true then 0 else 4) := by
  by_cases h1 : l.length = 0
  · have : mayB l = false := by simp [mayB, h1]
    rw [this]
    exact Ev.congr (fun k => if_pos (by omega)) (Ev.now _)
  refine Ev.congr (fun k => if_neg (by omega)) ?_
  by_cases h2 : l.length ≤ 100000
  rotate_left
  · have : mayB l = false := by simp [mayB, h2]
    rw [this]
    exact Ev.congr (fun k => if_pos (by omega)) (Ev.now _)
  refine Ev.congr (fun k => if_neg (by omega)) ?_
  refine Ev.congr (fun k => if_pos (by omega)) ?_
  by_cases h3 : (rd_T33 l 0).f0 = 1
  rotate_left
  · have : mayB l = false := by simp [mayB, h3]
    rw [this]
    exact Ev.congr (fun k => if_neg h3) (Ev.now _)
  refine Ev.congr (fun k => if_pos h3) ?_
  by_cases h4 : (rd_T33 l 0).f2 = 0
  rotate_left
  · have : mayB l = false := by simp [mayB, h4]
    rw [this]
    exact Ev.congr (fun k => if_neg h4) (Ev.now _)
  refine Ev.congr (fun k => if_pos h4) ?_
  obtain ⟨r, hr⟩ := chk_some l
  refine Ev.bind (below_ev l hl hf hx _ 0 r (by omega) (by omega) hr) ?_
  have hm : mayB l = true ↔ outB 0 r = (l.length : Int) := by
    have a1 : 0 < l.length := by omega
    unfold mayB chkB outB
    rw [hr]
    simp only [a1, h2, h3, h4, decide_true, Bool.true_and]
    obtain ⟨b, nx⟩ := r
    cases b
    · simp only [Bool.false_eq_true, if_false]
      constructor
      · intro z; cases z
      · intro z; omega
    · simp only [if_true, decide_eq_true_eq, Int.sub_zero]
  by_cases h5 : outB 0 r = (l.length : Int)
  · rw [if_pos (hm.2 h5)]
    exact Ev.congr (fun k => if_pos h5) (Ev.now _)
  · rw [if_neg (fun z => h5 (hm.1 z))]
    exact Ev.congr (fun k => if_neg h5) (Ev.now _)
end Go.Proofs.YtafbmlhgcmlmpaaDoor.PT
