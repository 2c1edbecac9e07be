/- The contract of tree.May: whether a tree may be. -/
import Derived.Test.YtafbmlhgcmlmpaaDoorPTx1
import Derived.Deep.DeepMust
import Derived.Outline
import Derived.Deep.RegionWith
import Derived.BigRegion
import Derived.BigGuard
import Derived.BigCall
namespace Go.Proofs.YtafbmlhgcmlmpaaDoor.PT
open Go.RowKit Go.Proofs.YtafbmlhgcmlmpaaDoorW.PrintWords Go.Proofs.YtafbmlhgcmlmpaaDoorW.PrintLast Go.Proofs.YtafbmlhgcmlmpaaDoorW.PrintMore
set_option linter.unusedVariables false
set_option linter.unusedSimpArgs false
theorem tot_ite {α : Type} {c : Prop} [Decidable c] {a b : Option α} (ha : ∃ x, a = some x) (hb : ∃ x, b = some x) : ∃ x, (if c then a else b) = some x := by
 split
 ·
  exact ha
 ·
  exact hb
theorem right_total (x : S33) : ∃ b, tree_right.f 1 x.f0 x.f1 x.f2 x.f3 x.f4 x.f5 = some b := by
 unfold tree_right.f tree_right.j0 name_Name.f
 simp only [Option.bind_some]
 repeat' (first | refine tot_ite ?_ ?_ | exact ⟨_, rfl⟩)
def rightB (x : S33) : Bool := (tree_right.f 1 x.f0 x.f1 x.f2 x.f3 x.f4 x.f5).getD false
theorem right_f (x : S33) : tree_right.f 1 x.f0 x.f1 x.f2 x.f3 x.f4 x.f5 = some (rightB x) := by
 obtain ⟨b, h⟩ := right_total x
 unfold rightB
 rw [h]
 rfl
def kidsF (l : List S33) (f : Int → Int → Option (Bool × Int)) : List Int → Int → Int → Option (Option Int × Int)
 | [], at_, nx => some (some at_, nx)
 | k :: ks, at_, nx =>
  if k ≥ l.length ∨ k < 0 ∨ (rd_T33 l k).f2 ≠ at_ then some (none, nx)
  else (f k nx).bind fun r => if r.1 = true then kidsF l f ks (rd_T33 l k).f3 r.2 else some (none, r.2)
def chk : Nat → List S33 → Int → Int → Option (Bool × Int)
 | 0, _, _, _ => none
 | n + 1, l, i, nx =>
  if i ≠ nx then some (false, nx)
  else if i ≥ l.length then some (false, nx)
  else if rightB (rd_T33 l i) = false then some (false, nx)
  else (kidsF l (chk n l) (rd_T33 l i).f5 (rd_T33 l i).f2 (i + 1)).bind fun r =>
   some (match r.1 with
    | none => (false, r.2)
    | some at_ => (decide ((rd_T33 l i).f5.length = 0) || decide (at_ = (rd_T33 l i).f3), r.2))
theorem kidsF_nonneg (l : List S33) (f : Int → Int → Option (Bool × Int)) (hf : ∀ i nx, 0 ≤ nx → ∀ r, f i nx = some r → 0 ≤ r.2) : ∀ (ks : List Int) (at_ nx : Int), 0 ≤ nx → ∀ r, kidsF l f ks at_ nx = some r → 0 ≤ r.2
 | [], at_, nx, h, r, hr => by
  obtain rfl := Option.some.inj hr
  exact h
 | k :: ks, at_, nx, h, r, hr => by
  simp only [kidsF] at hr
  split at hr
  ·
   obtain rfl := Option.some.inj hr
   exact h
  ·
   obtain ⟨q, hq, hr⟩ := Option.bind_eq_some_iff.1 hr
   have h2 := hf _ _ h _ hq
   split at hr
   ·
    exact kidsF_nonneg l f hf ks _ _ h2 r hr
   ·
    obtain rfl := Option.some.inj hr
    exact h2
theorem chk_nonneg : ∀ (n : Nat) (l : List S33) (i nx : Int), 0 ≤ nx → ∀ r, chk n l i nx = some r → 0 ≤ r.2
 | 0, l, i, nx, h, r, hr => by cases hr
 | n + 1, l, i, nx, h, r, hr => by
  unfold chk at hr
  split at hr
  ·
   obtain rfl := Option.some.inj hr
   exact h
  ·
   split at hr
   ·
    obtain rfl := Option.some.inj hr
    exact h
   ·
    split at hr
    ·
     obtain rfl := Option.some.inj hr
     exact h
    ·
     obtain ⟨q, hq, hr⟩ := Option.bind_eq_some_iff.1 hr
     have h2 := kidsF_nonneg l (chk n l) (fun i nx hn r hr => chk_nonneg n l i nx hn r hr) _ _ _ (by omega) _ hq
     obtain rfl := Option.some.inj hr
     cases q.1 <;> exact h2
theorem _root_.Go.Proofs.YtafbmlhgcmlmpaaDoorW.PrintWords.KeepBut.al {w w1 : World} {g : Nat} {row : Option Nat} (h : KeepBut w w1 g row) (o : Obj) : KeepBut w (w1.alloc o) g row := h.trans (KeepBut.of_below (below_alloc (Below.refl _ _) o) g row) (.inl rfl)
theorem blk_new_set {w : World} (g j : Nat) (v : Value) (o : Obj) : ((w.setCell ⟨g, j, none⟩ v).alloc o).heap[w.heap.size]? = some o := by
 have z := heap_alloc_new (w.setCell ⟨g, j, none⟩ v) o
 rwa [show (w.setCell ⟨g, j, none⟩ v).heap.size = w.heap.size from by simp [World.setCell]] at z
theorem drop_rd {xs : List Int} {j : Nat} (h : j < xs.length) : xs.drop j = rd xs (j : Int) :: xs.drop (j + 1) := by
 rw [List.drop_eq_getElem_cons h]
 simp [rd, h]
def NodePost (w0 : World) (A : Option Addr) (m c g : Nat) (w : World) (r : Bool × Int) (e : Ending) (w' : World) : Prop :=
 e = .returned (.bool r.1) ∧ w'.heap[g]? = some (.cells #[.slice A m c, .int .i64 r.2] 81 (0, 0)) ∧ Below w0.heap.size w0 w' ∧ KeepBut w w' g none
theorem NodePost.mk1 {w0 : World} {A : Option Addr} {m c g : Nat} {w w' : World} {r : Bool × Int} {e : Ending} (h1 : e = .returned (.bool r.1)) (h2 : w'.heap[g]? = some (.cells #[.slice A m c, .int .i64 r.2] 81 (0, 0))) (h3 : Below w0.heap.size w0 w') (h4 : KeepBut w w' g none) : NodePost w0 A m c g w r e w' := ⟨h1, h2, h3, h4⟩
set_option maxHeartbeats 2000000 in
set_option maxRecDepth 1000000 in
theorem node_any (l : List S33) (A : Option Addr) (c : Nat) (w0 : World) (hr : Kd.C k33 w0 A l.length l) (hc : l.length ≤ c) (hG : GL w0) (n : Nat) :
  ∀ (i nx : Int) (r : Bool × Int) (w : World) (g : Nat), 0 ≤ nx → w.heap[g]? = some (.cells #[.slice A l.length c, .int .i64 nx] 81 (0, 0)) → w0.heap.size ≤ g → Below w0.heap.size w0 w → chk n l i nx = some r →
   Calls Tryd.prog 45 #[.pointer (some ⟨g, 0, none⟩), .int .i64 i] w (NodePost w0 A l.length c g w r) := by
 induction n with
 | zero => intro i nx r w g _ _ _ _ h; cases h
 | succ n ih =>
  intro i nx r w g h0 hg hgw hb h
  have IH := Aside0.mk ih
  have HGW := Aside0.mk hgw
  have HB := Aside0.mk hb
  have HG := Aside0.mk hG
  have HR := Aside0.mk hr
  have HC := Aside0.mk hc
  have HBK := Aside0.mk hg
  have hg0 := blk_cell hg 0
  have hg1 := blk_cell hg 1
  have hgf := blk_frozen hg 1
  clear ih hgw hb hG hr hc hg
  simp only [List.getElem?_toArray, List.getElem?_cons_zero, List.getElem?_cons_succ] at hg0 hg1
  unfold chk at h
  by_cases h1 : i = nx
  ·
   subst h1
   rw [if_neg (by simp)] at h
   by_cases h2 : i ≥ l.length
   ·
    rw [if_pos h2] at h
    obtain rfl := Option.some.inj h
    clear h
    go_enter Tryd.func45, Tryd.ntmps45
    go_wp2
    go_ret
    exact NodePost.mk1 rfl HBK.out HB.out (KeepBut.refl _ _ _)
   ·
    have hlt : i < l.length := by omega
    rw [if_neg h2] at h
    obtain ⟨ad, A5, c5, hA, e0, e1, e2, e3, e4, e5, l5, g5⟩ := at_T33 HR.out i h0 hlt
    replace e0 := pw_cell_below HB.out e0
    replace e1 := pw_cell_below HB.out e1
    replace e2 := pw_cell_below HB.out e2
    replace e3 := pw_cell_below HB.out e3
    replace e4 := pw_cell_below HB.out e4
    replace e5 := pw_cell_below HB.out e5
    have L5 := Aside0.mk l5
    have G5 := Aside0.mk g5
    clear l5 g5 h2
    have hu33 := Tryd.underlying33
    have hu24 := Tryd.underlying24
    subst hA
    cases h3 : rightB (rd_T33 l i) with
    | false =>
     rw [if_pos h3] at h
     obtain rfl := Option.some.inj h
     have H3 : Aside0 (tree_right.f 1 (rd_T33 l i).f0 (rd_T33 l i).f1 (rd_T33 l i).f2 (rd_T33 l i).f3 (rd_T33 l i).f4 (rd_T33 l i).f5 = some false) := ⟨by rw [right_f, h3]⟩
     clear h h3
     go_enter Tryd.func45, Tryd.ntmps45
     go_wp2_with (go_at_call 76; go_must (refine (tree_right.calls 1 _ _ _ _ _ _ _ _ false _ (Kd.C_below G5.out HB.out) L5.out (GL_below HG.out HB.out) H3.out).mono ?_; rintro e w1 ⟨rfl, hb1⟩))
     go_ret
     exact NodePost.mk1 rfl (by rw [hb1.block g (blk_lt HBK.out)]; exact HBK.out) (below_step HB.out hb1) (KeepBut.of_below hb1 _ _)
    | true =>
     rw [if_neg (by simp [h3])] at h
     have H3 : Aside0 (tree_right.f 1 (rd_T33 l i).f0 (rd_T33 l i).f1 (rd_T33 l i).f2 (rd_T33 l i).f3 (rd_T33 l i).f4 (rd_T33 l i).f5 = some true) := ⟨by rw [right_f, h3]⟩
     have H := Aside0.mk h
     clear h h3
     have b0 : decide ((l.length : Int) ≤ i) = false := decide_eq_false (by omega)
     have h64 : i + 1 ≤ 9223372036854775807 := by have := HR.out.2.1; omega
     go_enter Tryd.func45, Tryd.ntmps45
     go_wp2_with (go_at_call 76; go_must (refine (tree_right.calls 1 _ _ _ _ _ _ _ _ true _ (Kd.C_below G5.out HB.out) L5.out (GL_below HG.out HB.out) H3.out).mono ?_; rintro e w1 ⟨rfl, hb1⟩; have HBK1 := Aside0.mk ((hb1.block g (blk_lt HBK.out)).trans HBK.out); have d0 := blk_cell HBK1.out 0; have d1 := blk_cell HBK1.out 1; have df := blk_frozen HBK1.out 1; have dlt := blk_lt HBK1.out; have dn : g ≠ w1.heap.size := Nat.ne_of_lt dlt; have dn' : w1.heap.size ≠ g := Ne.symm dn; have q0 := pw_cell_below hb1 e0; have q1 := pw_cell_below hb1 e1; have q2 := pw_cell_below hb1 e2; have q3 := pw_cell_below hb1 e3; have q4 := pw_cell_below hb1 e4; have q5 := pw_cell_below hb1 e5; have HB1 := Aside0.mk hb1; simp only [List.getElem?_toArray, List.getElem?_cons_zero, List.getElem?_cons_succ] at d0 d1; clear hb1 hg0 hg1 hgf e0 e1 e2 e3 e4 e5))
     obtain ⟨res, hk, hres⟩ := Option.bind_eq_some_iff.1 H.out
     have HRES := Aside0.mk (Option.some.inj hres)
     have HK := Aside0.mk hk
     clear H hres hk
     have hBw : w.heap.size ≤ w1.heap.size := HB1.out.size
     go_loopw [6, 57] (fun v6 v57 wr => ∃ (j : Nat) (at_ nx : Int), v6 = .int .i64 at_ ∧ v57 = .int .i64 j ∧ j ≤ (rd_T33 l i).f5.length ∧ Aside0 (0 ≤ nx) ∧ Aside0 (kidsF l (chk n l) ((rd_T33 l i).f5.drop j) at_ nx = some res)
       ∧ Aside0 (wr.heap[g]? = some (.cells #[.slice (some ad) l.length c, .int .i64 nx] 81 (0, 0)))
       ∧ Aside0 (wr.heap[w1.heap.size]? = some (.cells #[.int .i64 (rd_T33 l i).f0, .int .i64 (rd_T33 l i).f1, .int .i64 (rd_T33 l i).f2, .int .i64 (rd_T33 l i).f3, .string (rd_T33 l i).f4, .slice A5 (rd_T33 l i).f5.length c5] 33 (0, 0)))
       ∧ Aside0 (Below w0.heap.size w0 wr) ∧ Aside0 (KeepBut w wr g none)) (fun _ v57 _ => (rd_T33 l i).f5.length - (intOf v57).toNat)
     case atStart =>
      refine ⟨0, (rd_T33 l i).f2, i + 1, rfl, rfl, Nat.zero_le _, ⟨by omega⟩, ⟨HK.out⟩, ⟨?_⟩, ⟨?_⟩, ⟨?_⟩, ⟨?_⟩⟩
      ·
       exact blk_alloc (by simpa using blk_set HBK1.out 1 (.int .i64 (i + 1))) _
      ·
       exact blk_new_set g 1 (.int .i64 (i + 1)) _
      ·
       exact below_alloc (below_set (below_step HB.out HB1.out) HGW.out) _
      ·
       exact ((KeepBut.of_below HB1.out g none).set_ 1 _).al _
     case round =>
      obtain ⟨j, at_, nx, rfl, rfl, hj, HNX, HKF, HBg, HBx, HBl, HKp⟩ := hrel
      clear d0 d1 df q0 q1 q2 q3 q4 q5 dlt dn dn'
      have s0 := blk_cell HBg.out 0
      have x2 := blk_cell HBx.out 2
      have x3 := blk_cell HBx.out 3
      have x5 := blk_cell HBx.out 5
      simp only [List.getElem?_toArray, List.getElem?_cons_zero, List.getElem?_cons_succ] at s0 x2 x3 x5
      by_cases hjl : j < (rd_T33 l i).f5.length
      ·
       have hKF := HKF.out
       rw [drop_rd hjl] at hKF
       clear HKF
       obtain ⟨ak, hAk, ck⟩ := Kd.at_int (Kd.C_below G5.out HBl.out) (j : Int) (by omega) (by omega)
       subst hAk
       have hj64 : (j : Int) + 1 ≤ 9223372036854775807 := by have := G5.out.2.1; omega
       have hja : 0 ≤ (j : Int) := by omega
       have hjb : (j : Int) < ((rd_T33 l i).f5.length : Int) := by omega
       have hjc : ((j : Int)).toNat = j := by omega
       rw [hjc] at ck
       generalize rd (rd_T33 l i).f5 (j : Int) = kj at *
       by_cases t1 : kj ≥ (l.length : Int)
       ·
        have HF : Aside0 (res = (none, nx)) := ⟨by simp only [kidsF] at hKF; rw [if_pos (.inl t1)] at hKF; exact (Option.some.inj hKF).symm⟩
        clear hKF
        go_wp2
        go_ret
        have hr2 := HRES.out
        rw [HF.out] at hr2
        subst hr2
        exact NodePost.mk1 rfl HBg.out HBl.out HKp.out
       ·
        by_cases t2 : kj < 0
        ·
         have HF : Aside0 (res = (none, nx)) := ⟨by simp only [kidsF] at hKF; rw [if_pos (.inr (.inl t2))] at hKF; exact (Option.some.inj hKF).symm⟩
         clear hKF
         go_wp2
         go_ret
         have hr2 := HRES.out
         rw [HF.out] at hr2
         subst hr2
         exact NodePost.mk1 rfl HBg.out HBl.out HKp.out
        ·
         have t1' : kj < (l.length : Int) := by omega
         have t2' : 0 ≤ kj := by omega
         have b1 : decide ((l.length : Int) ≤ kj) = false := decide_eq_false t1
         have b2 : decide (kj < 0) = false := decide_eq_false t2
         obtain ⟨ad2, A6, c6, hA2, _, _, m2, _, _, _, _, _⟩ := at_T33 (Kd.C_below HR.out HBl.out) kj t2' t1'
         cases hA2
         by_cases t3 : (rd_T33 l kj).f2 = at_
         ·
          have t3b : ((rd_T33 l kj).f2 != at_) = false := by simp [t3]
          simp only [kidsF] at hKF
          rw [if_neg (by rintro (z | z | z) <;> first | omega | exact z t3)] at hKF
          obtain ⟨r1, hr1, hKF2⟩ := Option.bind_eq_some_iff.1 hKF
          have HR1 := Aside0.mk hr1
          have HF := Aside0.mk hKF2
          have T3 := Aside0.mk t3
          clear hKF hKF2 hr1 t3 t1 t2
          obtain ⟨b1, n1⟩ := r1
          have hn1 : Aside0 (0 ≤ n1) := ⟨chk_nonneg n l kj nx HNX.out _ HR1.out⟩
          cases b1 with
          | true =>
           have HF2 : Aside0 (kidsF l (chk n l) (List.drop (j + 1) (rd_T33 l i).f5) (rd_T33 l kj).f3 n1 = some res) := ⟨by have := HF.out; simpa using this⟩
           clear HF
           go_wp2_with fail
           refine (IH.out kj nx (true, n1) _ g HNX.out HBg.out HGW.out HBl.out HR1.out).mono ?_
           rintro e w3 ⟨rfl, hG3, hB3, hK3⟩
           obtain ⟨ad3, A7, c7, hA3, _, _, _, m3, _, _, _, _⟩ := at_T33 (Kd.C_below HR.out hB3) kj t2' t1'
           cases hA3
           have s3 := blk_cell hG3 0
           have HG3 := Aside0.mk hG3
           have HB3 := Aside0.mk hB3
           have HK3 := Aside0.mk hK3
           clear hG3 hB3 hK3
           simp only [List.getElem?_toArray, List.getElem?_cons_zero] at s3
           clear s0 x2 x3 x5 ck m2
           go_wp2
           go_roundw
           case rel => exact ⟨j + 1, (rd_T33 l kj).f3, n1, rfl, by go_num, by omega, hn1, HF2, HG3, ⟨HK3.out.blk HBx.out (Ne.symm (Nat.ne_of_lt (Nat.lt_of_lt_of_le (blk_lt HBK.out) hBw))) (by simp)⟩, HB3, ⟨HKp.out.trans HK3.out (.inl rfl)⟩⟩
           case measure => simp [intOf]; omega
          | false =>
           have HF2 : Aside0 (res = (none, n1)) := ⟨by have := HF.out; simpa using this.symm⟩
           clear HF
           go_wp2_with (go_at_call 45; go_must (refine (IH.out kj nx (false, n1) _ g HNX.out HBg.out HGW.out HBl.out HR1.out).mono ?_; rintro e w3 ⟨rfl, hG3, hB3, hK3⟩; have HG3 := Aside0.mk hG3; have HB3 := Aside0.mk hB3; have HK3 := Aside0.mk hK3; clear hG3 hB3 hK3; clear s0 x2 x3 x5 ck m2))
           go_ret
           have hr2 := HRES.out
           rw [HF2.out] at hr2
           subst hr2
           exact NodePost.mk1 rfl HG3.out HB3.out (HKp.out.trans HK3.out (.inl rfl))
         ·
          have t3b : ((rd_T33 l kj).f2 != at_) = true := by simp [t3]
          have HF : Aside0 (res = (none, nx)) := ⟨by simp only [kidsF] at hKF; rw [if_pos (.inr (.inr t3))] at hKF; exact (Option.some.inj hKF).symm⟩
          clear hKF
          go_wp2
          go_ret
          have hr2 := HRES.out
          rw [HF.out] at hr2
          subst hr2
          exact NodePost.mk1 rfl HBg.out HBl.out HKp.out
      ·
       obtain rfl : j = (rd_T33 l i).f5.length := by omega
       have HF : Aside0 (res = (some at_, nx)) := ⟨by have := HKF.out; rw [List.drop_length] at this; exact (Option.some.inj this).symm⟩
       have hr2 := HRES.out
       rw [HF.out] at hr2
       have HR2 := Aside0.mk hr2
       clear hr2 HF HKF HRES
       have e6 : decide ((rd_T33 l i).f5.length = 0) = (((rd_T33 l i).f5.length : Int) == 0) := by rw [Bool.eq_iff_iff]; simp
       have e7 : decide (at_ = (rd_T33 l i).f3) = (at_ == (rd_T33 l i).f3) := rfl
       have E6 := Aside0.mk e6
       have E7 := Aside0.mk e7
       clear e6 e7
       by_cases u1 : (rd_T33 l i).f5.length = 0
       ·
        have u1b : (((rd_T33 l i).f5.length : Int) == 0) = true := by simp [u1]
        have U1 := Aside0.mk u1
        clear u1
        go_wp2
        go_ret
        rw [← HR2.out]
        exact NodePost.mk1 (by rw [U1.out]; rfl) HBg.out HBl.out HKp.out
       ·
        have u1b : (((rd_T33 l i).f5.length : Int) == 0) = false := by simp [u1]
        have U1 := Aside0.mk u1
        clear u1
        go_wp2
        go_ret
        rw [← HR2.out]
        exact NodePost.mk1 (by rw [E6.out, u1b]; rfl) HBg.out HBl.out HKp.out
  ·
   rw [if_pos h1] at h
   obtain rfl := Option.some.inj h
   clear h
   have h1b : (i != nx) = true := bne_iff_ne.2 h1
   go_enter Tryd.func45, Tryd.ntmps45
   go_wp2
   go_ret
   exact NodePost.mk1 rfl HBK.out HB.out (KeepBut.refl _ _ _)
theorem kidsF_total (l : List S33) (f : Int → Int → Option (Bool × Int)) (b m : Int) (hf : ∀ i nx, b ≤ nx → nx ≤ m → ∃ r, f i nx = some r ∧ nx ≤ r.2 ∧ r.2 ≤ m) : ∀ (ks : List Int) (at_ nx : Int), b ≤ nx → nx ≤ m → ∃ r, kidsF l f ks at_ nx = some r ∧ nx ≤ r.2 ∧ r.2 ≤ m
 | [], at_, nx, h, h2 => ⟨_, rfl, Int.le_refl _, h2⟩
 | k :: ks, at_, nx, h, h2 => by
  simp only [kidsF]
  split
  ·
   exact ⟨_, rfl, Int.le_refl _, h2⟩
  ·
   obtain ⟨r, hr, hle, hm⟩ := hf k nx h h2
   rw [hr]
   simp only [Option.bind_some]
   split
   ·
    obtain ⟨q, hq, hl2, hm2⟩ := kidsF_total l f b m hf ks (rd_T33 l k).f3 r.2 (by omega) hm
    exact ⟨q, hq, by omega, hm2⟩
   ·
    exact ⟨_, rfl, hle, hm⟩
theorem chk_total : ∀ (n : Nat) (l : List S33) (i nx : Int), 0 ≤ nx → nx ≤ l.length → (l.length : Int) < n + nx → ∃ r, chk n l i nx = some r ∧ nx ≤ r.2 ∧ r.2 ≤ l.length
 | 0, l, i, nx, h, h1, hn => by omega
 | n + 1, l, i, nx, h, h1, hn => by
  unfold chk
  split
  ·
   exact ⟨_, rfl, Int.le_refl _, h1⟩
  ·
   split
   ·
    exact ⟨_, rfl, Int.le_refl _, h1⟩
   ·
    split
    ·
     exact ⟨_, rfl, Int.le_refl _, h1⟩
    ·
     obtain ⟨q, hq, hle, hm⟩ := kidsF_total l (chk n l) (i + 1) l.length (fun i' nx' hn' hm' => chk_total n l i' nx' (by omega) hm' (by omega)) (rd_T33 l i).f5 (rd_T33 l i).f2 (i + 1) (Int.le_refl _) (by omega)
     rw [hq]
     simp only [Option.bind_some]
     refine ⟨_, rfl, ?_⟩
     cases q.1 <;> simp only <;> omega
theorem chk_some (l : List S33) : ∃ r, chk (l.length + 1) l 0 0 = some r := by
 obtain ⟨r, hr, _⟩ := chk_total (l.length + 1) l 0 0 (by omega) (by omega) (by omega)
 exact ⟨r, hr⟩
def chkB (l : List S33) : Bool := match chk (l.length + 1) l 0 0 with
 | some (true, nx) => decide (nx = l.length)
 | _ => false
def mayB (l : List S33) : Bool := decide (0 < l.length) && decide (l.length ≤ 100000) && decide ((rd_T33 l 0).f0 = 1) && decide ((rd_T33 l 0).f2 = 0) && chkB l
def tree_May.f (l0_0 : List S33) : Option Int := some (if mayB l0_0 = true then 0 else 4)
theorem may_no {l : List S33} (h : l.length = 0 ∨ 100000 < l.length ∨ (rd_T33 l 0).f0 ≠ 1 ∨ (rd_T33 l 0).f2 ≠ 0 ∨ chkB l = false) {r : Int} (hr : tree_May.f l = some r) : r = 4 := by
 have hm : mayB l = false := by
  unfold mayB
  rcases h with h | h | h | h | h
  ·
   simp [h]
  ·
   have : ¬ l.length ≤ 100000 := by omega
   simp [this]
  ·
   simp [h]
  ·
   simp [h]
  ·
   simp [h]
 have := Option.some.inj hr
 rw [hm] at this
 simpa using this.symm
section
variable {P : Program} {ops : Array Oper} {Q : Exit → Act → World → Prop} {md : Region.Mode}
theorem last_of_any : ∀ (fuel : Nat) (listed : Array Bool) (a : Act) (w : World), wpAny P md ops Q fuel listed a w → wpAnyLast P md ops Q (fun _ => True) [] fuel listed a w
 | 0, _, _, _, h => h
 | fuel + 1, _, _, _, h => ⟨h.1, fun i hi => wpOp_mono (fun a' w' h' => ⟨fun _ _ => trivial, last_of_any fuel _ a' w' h'⟩) (h.2 i hi)⟩
theorem restate_ {S' : World → Prop} {ds' : List Nat} {fuel : Nat} {l : Array Bool} {a : Act} {w : World} (h : wpAnyLast P md ops Q S' ds' fuel l a w) : wpAnyLast P md ops Q (fun _ => True) [] fuel l a w :=
 last_of_any fuel l a w (wpAny_of_last fuel l a w h)
end
theorem root_calls (l : List S33) (A : Option Addr) (c : Nat) (w : World) (hr : Kd.C k33 w A l.length l) (hc : l.length ≤ c) (hG : GL w) (b : Bool) (nx : Int) (h : chk (l.length + 1) l 0 0 = some (b, nx)) :
  Calls Tryd.prog 45 #[.pointer (some ⟨w.heap.size + 1, 0, none⟩), .int .i64 0] ((w.alloc (.cells #[.slice A l.length c] 24)).alloc (.cells #[.slice A l.length c, .int .i64 0] 81)).drew
   fun e w' => e = .returned (.bool b) ∧ w'.cell? ⟨w.heap.size + 1, 1, none⟩ = some (.int .i64 nx) ∧ w'.cell? ⟨w.heap.size, 0, none⟩ = some (.slice A l.length c) ∧ Below w.heap.size w w' := by
 have h1 : ((w.alloc (.cells #[.slice A l.length c] 24)).alloc (.cells #[.slice A l.length c, .int .i64 0] 81)).drew.heap[w.heap.size + 1]? = some (.cells #[.slice A l.length c, .int .i64 0] 81 (0, 0)) := by
  have z := heap_alloc_new (w.alloc (.cells #[.slice A l.length c] 24)) (.cells #[.slice A l.length c, .int .i64 0] 81)
  rwa [World.size_alloc] at z
 have h2 : ((w.alloc (.cells #[.slice A l.length c] 24)).alloc (.cells #[.slice A l.length c, .int .i64 0] 81)).drew.heap[w.heap.size]? = some (.cells #[.slice A l.length c] 24 (0, 0)) :=
  blk_alloc (heap_alloc_new w (.cells #[.slice A l.length c] 24)) _
 refine (node_any l A c w hr hc hG _ 0 0 (b, nx) _ (w.heap.size + 1) (by omega) h1 (by omega) (below_drew (below_alloc (below_alloc (Below.refl _ _) _) _)) h).mono ?_
 rintro e w' ⟨he, hg, hb, hk⟩
 exact ⟨he, (blk_cell hg 1).trans rfl, (blk_cell (hk.blk h2 (by omega) (by simp)) 0).trans rfl, hb⟩
set_option maxHeartbeats 2000000 in
set_option maxRecDepth 100000 in
theorem tree_May.calls (A0_0 : Option Addr) (c0_0 : Nat) (l0_0 : List S33) (r : Int) (w : World) (hr0_0 : Kd.C k33 w A0_0 l0_0.length l0_0) (hc0_0 : l0_0.length ≤ c0_0) (hG : GL w) (h : tree_May.f l0_0 = some r) :
  Calls Tryd.prog 11 #[.agg #[.slice A0_0 l0_0.length c0_0]] w fun e w' => e = .returned (.int .i64 r) ∧ Below w.heap.size w w' := by
 have hu33 := Tryd.underlying33
 have hu24 := Tryd.underlying24
 have hu81 := Tryd.underlying81
 by_cases t1 : l0_0.length = 0
 ·
  obtain rfl := may_no (.inl t1) h
  have b1 : ((l0_0.length : Int) == 0) = true := by simp [t1]
  clear h t1 hr0_0 hc0_0
  go_enter Tryd.func11, Tryd.ntmps11
  go_wp2
  go_ret
  exact ⟨rfl, below_alloc (Below.refl _ _) _⟩
 ·
  have b1 : ((l0_0.length : Int) == 0) = false := by simp [t1]
  by_cases t2 : 100000 < l0_0.length
  ·
   obtain rfl := may_no (.inr (.inl t2)) h
   have b2 : decide ((100000 : Int) < (l0_0.length : Int)) = true := decide_eq_true (by omega)
   clear h t1 hr0_0 hc0_0
   go_enter Tryd.func11, Tryd.ntmps11
   go_wp2
   go_ret
   exact ⟨rfl, below_alloc (Below.refl _ _) _⟩
  ·
   have b2 : decide ((100000 : Int) < (l0_0.length : Int)) = false := decide_eq_false (by omega)
   have hpos : (0 : Int) < l0_0.length := by omega
   obtain ⟨ad, f0, hA, e0, e2⟩ : ∃ ad, ∃ _ : True, A0_0 = some ad ∧ (∀ o, (w.alloc o).cell? ad = some (.int .i64 (rd_T33 l0_0 0).f0)) ∧ (∀ o, (w.alloc o).cell? ⟨ad.block, ad.off + 2, none⟩ = some (.int .i64 (rd_T33 l0_0 0).f2)) := by
    obtain ⟨ad, A5, c5, hA, e0, _, e2, _⟩ := at_T33 hr0_0 0 (by omega) hpos
    have ha : ad.add (Int.toNat 0 * 6) = ad := by simp [Addr.add]
    rw [ha] at e0 e2
    exact ⟨ad, trivial, hA, fun o => pw_cell_below (below_alloc (Below.refl _ _) o) e0, fun o => pw_cell_below (below_alloc (Below.refl _ _) o) e2⟩
   subst hA
   have HR := Aside0.mk hr0_0
   have HG := Aside0.mk hG
   clear hr0_0 hG
   by_cases t3 : (rd_T33 l0_0 0).f0 = 1
   ·
    have b3 : ((rd_T33 l0_0 0).f0 != 1) = false := by simp [t3]
    by_cases t4 : (rd_T33 l0_0 0).f2 = 0
    ·
     have b4 : ((rd_T33 l0_0 0).f2 != 0) = false := by simp [t4]
     obtain ⟨⟨b, nx⟩, hq⟩ := chk_some l0_0
     cases b with
     | false =>
      obtain rfl := may_no (.inr (.inr (.inr (.inr (by simp [chkB, hq]))))) h
      have HQ := Aside0.mk hq
      clear h t1 t2 t3 t4 hq
      go_enter Tryd.func11, Tryd.ntmps11
      go_wp2
      refine start_ (n := 13) (S := fun w' => True) (ds := []) #[false, false, false, false, false, false, false, false, false, false, false, false, false] (by kernel_rfl) rfl rfl trivial (fun hHeld => ?_)
      refine pure_ (i := 0) (N := some 33) (v := ?_) (a' := ?_) #[true, false, false, false, false, false, false, false, false, false, false, false, false] rfl rfl (by kernel_rfl) (fun _ _ _ h => h) (Or.inl ⟨by rfl, ?_⟩) ?_ ?_
      rotate_left
      ·
       intro w'
       go_simp
       with_reducible rfl
      rotate_left
      ·
       simp only [Act.put, List.setIfInBounds_toArray, List.set_cons_zero, List.set_cons_succ, i64_w, i32_w]
       rfl
      refine one_ (i := 1) (N := some 34) #[true, true, false, false, false, false, false, false, false, false, false, false, false] rfl rfl (by kernel_rfl) (by decide) (fun K hK => ?_)
      refine goes_ Tryd.func45 (by kernel_rfl) rfl #[.pointer (some ⟨w.heap.size + 1, 0, none⟩), .int .i64 0] (by rfl) rfl rfl (by simp only [List.map_toArray, List.map_cons, List.map_nil]; rfl) ?_
      with_reducible refine (root_calls l0_0 (some ad) c0_0 w HR.out hc0_0 HG.out _ _ HQ.out).mono ?_
      rintro e w3 ⟨rfl, hc1, hc2, hb3⟩
      refine ⟨_, rfl, ?_⟩
      refine hK.out _ _ trivial (fun hHeld => ?_)
      clear hK K
      refine norm_ (a' := ?_) ?_ ?_
      rotate_left
      ·
       show Act.put _ (some 34) _ = _
       simp only [Act.put, List.setIfInBounds_toArray, List.set_cons_zero, List.set_cons_succ, i64_w, i32_w]
       rfl
      refine pure_ (i := 2) (N := some 35) (v := ?_) (a' := ?_) #[true, true, true, false, false, false, false, false, false, false, false, false, false] rfl rfl (by kernel_rfl) (fun _ _ _ h => h) (Or.inl ⟨by rfl, ?_⟩) ?_ ?_
      rotate_left
      ·
       intro w'
       go_simp
       with_reducible rfl
      rotate_left
      ·
       simp only [Act.put, List.setIfInBounds_toArray, List.set_cons_zero, List.set_cons_succ, i64_w, i32_w]
       rfl
      refine pure_ (i := 3) (N := some 36) (v := ?_) (a' := ?_) #[true, true, true, true, false, false, false, false, false, false, false, false, false] rfl rfl (by kernel_rfl) (fun _ _ _ h => h) (Or.inl ⟨by rfl, ?_⟩) ?_ ?_
      rotate_left
      ·
       intro w'
       go_simp
       with_reducible rfl
      rotate_left
      ·
       simp only [Act.put, List.setIfInBounds_toArray, List.set_cons_zero, List.set_cons_succ, i64_w, i32_w]
       rfl
      refine pure_ (i := 4) (N := some 37) (v := undef) (a' := ?_) #[true, true, true, true, true, false, false, false, false, false, false, false, false] rfl rfl (by kernel_rfl) (fun _ _ _ h => h) (Or.inr ⟨by rfl, rfl⟩) ?_ ?_
      rotate_left
      ·
       simp only [Act.put, List.setIfInBounds_toArray, List.set_cons_zero, List.set_cons_succ, i64_w, i32_w]
       rfl
      refine pure_ (i := 5) (N := some 38) (v := undef) (a' := ?_) #[true, true, true, true, true, true, false, false, false, false, false, false, false] rfl rfl (by kernel_rfl) (fun _ _ _ h => h) (Or.inr ⟨by rfl, rfl⟩) ?_ ?_
      rotate_left
      ·
       simp only [Act.put, List.setIfInBounds_toArray, List.set_cons_zero, List.set_cons_succ, i64_w, i32_w]
       rfl
      refine pure_ (i := 6) (N := some 39) (v := undef) (a' := ?_) #[true, true, true, true, true, true, true, false, false, false, false, false, false] rfl rfl (by kernel_rfl) (fun _ _ _ h => h) (Or.inr ⟨by rfl, rfl⟩) ?_ ?_
      rotate_left
      ·
       simp only [Act.put, List.setIfInBounds_toArray, List.set_cons_zero, List.set_cons_succ, i64_w, i32_w]
       rfl
      refine pure_ (i := 7) (N := some 40) (v := undef) (a' := ?_) #[true, true, true, true, true, true, true, true, false, false, false, false, false] rfl rfl (by kernel_rfl) (fun _ _ _ h => h) (Or.inr ⟨by rfl, rfl⟩) ?_ ?_
      rotate_left
      ·
       simp only [Act.put, List.setIfInBounds_toArray, List.set_cons_zero, List.set_cons_succ, i64_w, i32_w]
       rfl
      refine pure_ (i := 8) (N := some 41) (v := undef) (a' := ?_) #[true, true, true, true, true, true, true, true, true, false, false, false, false] rfl rfl (by kernel_rfl) (fun _ _ _ h => h) (Or.inr ⟨by rfl, rfl⟩) ?_ ?_
      rotate_left
      ·
       simp only [Act.put, List.setIfInBounds_toArray, List.set_cons_zero, List.set_cons_succ, i64_w, i32_w]
       rfl
      refine pure_ (i := 9) (N := some 42) (v := undef) (a' := ?_) #[true, true, true, true, true, true, true, true, true, true, false, false, false] rfl rfl (by kernel_rfl) (fun _ _ _ h => h) (Or.inr ⟨by rfl, rfl⟩) ?_ ?_
      rotate_left
      ·
       simp only [Act.put, List.setIfInBounds_toArray, List.set_cons_zero, List.set_cons_succ, i64_w, i32_w]
       rfl
      refine pure_ (i := 10) (N := some 43) (v := undef) (a' := ?_) #[true, true, true, true, true, true, true, true, true, true, true, false, false] rfl rfl (by kernel_rfl) (fun _ _ _ h => h) (Or.inr ⟨by rfl, rfl⟩) ?_ ?_
      rotate_left
      ·
       simp only [Act.put, List.setIfInBounds_toArray, List.set_cons_zero, List.set_cons_succ, i64_w, i32_w]
       rfl
      refine pure_ (i := 11) (N := some 44) (v := undef) (a' := ?_) #[true, true, true, true, true, true, true, true, true, true, true, true, false] rfl rfl (by kernel_rfl) (fun _ _ _ h => h) (Or.inr ⟨by rfl, rfl⟩) ?_ ?_
      rotate_left
      ·
       simp only [Act.put, List.setIfInBounds_toArray, List.set_cons_zero, List.set_cons_succ, i64_w, i32_w]
       rfl
      refine pure_ (i := 12) (N := some 45) (v := ?_) (a' := ?_) #[true, true, true, true, true, true, true, true, true, true, true, true, true] rfl rfl (by kernel_rfl) (fun _ _ _ h => h) (Or.inl ⟨by rfl, ?_⟩) ?_ ?_
      rotate_left
      ·
       intro w'
       go_simp
       with_reducible rfl
      rotate_left
      ·
       simp only [Act.put, List.setIfInBounds_toArray, List.set_cons_zero, List.set_cons_succ, i64_w, i32_w]
       rfl
      refine done_ (by kernel_rfl) ?_
      go_wp2
      go_ret
      exact ⟨rfl, hb3⟩
     | true =>
      by_cases t5 : nx = l0_0.length
      ·
       have hr : r = 0 := by
        have := Option.some.inj h
        rw [if_pos (by simp [mayB, chkB, hq, t5, t3, t4]; omega)] at this
        exact this.symm
       subst hr
       have b5 : (nx != (l0_0.length : Int)) = false := by simp [t5]
       have HQ := Aside0.mk hq
       clear h t1 t2 t3 t4 hq t5
       go_enter Tryd.func11, Tryd.ntmps11
       go_wp2
       refine start_ (n := 13) (S := fun w' => True) (ds := []) #[false, false, false, false, false, false, false, false, false, false, false, false, false] (by kernel_rfl) rfl rfl trivial (fun hHeld => ?_)
       refine pure_ (i := 0) (N := some 33) (v := ?_) (a' := ?_) #[true, false, false, false, false, false, false, false, false, false, false, false, false] rfl rfl (by kernel_rfl) (fun _ _ _ h => h) (Or.inl ⟨by rfl, ?_⟩) ?_ ?_
       rotate_left
       ·
        intro w'
        go_simp
        with_reducible rfl
       rotate_left
       ·
        simp only [Act.put, List.setIfInBounds_toArray, List.set_cons_zero, List.set_cons_succ, i64_w, i32_w]
        rfl
       refine one_ (i := 1) (N := some 34) #[true, true, false, false, false, false, false, false, false, false, false, false, false] rfl rfl (by kernel_rfl) (by decide) (fun K hK => ?_)
       refine goes_ Tryd.func45 (by kernel_rfl) rfl #[.pointer (some ⟨w.heap.size + 1, 0, none⟩), .int .i64 0] (by rfl) rfl rfl (by simp only [List.map_toArray, List.map_cons, List.map_nil]; rfl) ?_
       with_reducible refine (root_calls l0_0 (some ad) c0_0 w HR.out hc0_0 HG.out _ _ HQ.out).mono ?_
       rintro e w3 ⟨rfl, hc1, hc2, hb3⟩
       refine ⟨_, rfl, ?_⟩
       refine hK.out _ _ trivial (fun _ => ?_)
       clear hK K
       refine norm_ (a' := ?_) ?_ ?_
       rotate_left
       ·
        show Act.put _ (some 34) _ = _
        simp only [Act.put, List.setIfInBounds_toArray, List.set_cons_zero, List.set_cons_succ, i64_w, i32_w]
        rfl
       refine restate_ (S' := fun w' => w'.cell? ⟨w.heap.size + 1, 1, none⟩ = some (.int .i64 nx) ∧ w'.cell? ⟨w.heap.size, 0, none⟩ = some (.slice (some ad) l0_0.length c0_0)) (ds' := []) ?_
       have hHeld := And.intro hc1 hc2
       refine pure_ (i := 2) (N := some 35) (v := ?_) (a' := ?_) #[true, true, true, false, false, false, false, false, false, false, false, false, false] rfl rfl (by kernel_rfl) (fun _ _ _ h => h) (Or.inl ⟨by rfl, ?_⟩) ?_ ?_
       rotate_left
       ·
        intro w'
        go_simp
        with_reducible rfl
       rotate_left
       ·
        simp only [Act.put, List.setIfInBounds_toArray, List.set_cons_zero, List.set_cons_succ, i64_w, i32_w]
        rfl
       refine pure_ (i := 3) (N := some 36) (v := ?_) (a' := ?_) #[true, true, true, true, false, false, false, false, false, false, false, false, false] rfl rfl (by kernel_rfl) (fun _ _ _ h => h) (Or.inl ⟨by rfl, ?_⟩) ?_ ?_
       rotate_left
       ·
        intro w'
        go_simp
        with_reducible rfl
       rotate_left
       ·
        simp only [Act.put, List.setIfInBounds_toArray, List.set_cons_zero, List.set_cons_succ, i64_w, i32_w]
        rfl
       refine pure_ (i := 4) (N := some 37) (v := ?_) (a' := ?_) #[true, true, true, true, true, false, false, false, false, false, false, false, false] rfl rfl (by kernel_rfl) (fun _ _ _ h => h) (Or.inl ⟨by rfl, ?_⟩) ?_ ?_
       rotate_left
       ·
        intro w'
        go_simp
        with_reducible rfl
       rotate_left
       ·
        simp only [Act.put, List.setIfInBounds_toArray, List.set_cons_zero, List.set_cons_succ, i64_w, i32_w]
        rfl
       refine pure_ (i := 5) (N := some 38) (v := ?_) (a' := ?_) #[true, true, true, true, true, true, false, false, false, false, false, false, false] rfl rfl (by kernel_rfl) (fun _ _ _ h => h) (Or.inl ⟨by rfl, ?_⟩) ?_ ?_
       rotate_left
       ·
        intro w'
        go_simp
        with_reducible rfl
       rotate_left
       ·
        simp only [Act.put, List.setIfInBounds_toArray, List.set_cons_zero, List.set_cons_succ, i64_w, i32_w]
        rfl
       refine pure_ (i := 6) (N := some 39) (v := ?_) (a' := ?_) #[true, true, true, true, true, true, true, false, false, false, false, false, false] rfl rfl (by kernel_rfl) (fun _ _ _ h => h) (Or.inl ⟨by rfl, ?_⟩) ?_ ?_
       rotate_left
       ·
        intro w'
        go_simp
        with_reducible rfl
       rotate_left
       ·
        simp only [Act.put, List.setIfInBounds_toArray, List.set_cons_zero, List.set_cons_succ, i64_w, i32_w]
        rfl
       refine pure_ (i := 8) (N := some 41) (v := ?_) (a' := ?_) #[true, true, true, true, true, true, true, false, true, false, false, false, false] rfl rfl (by kernel_rfl) (fun _ _ _ h => h) (Or.inl ⟨by rfl, ?_⟩) ?_ ?_
       rotate_left
       ·
        intro w'
        go_simp
        with_reducible rfl
       rotate_left
       ·
        simp only [Act.put, List.setIfInBounds_toArray, List.set_cons_zero, List.set_cons_succ, i64_w, i32_w]
        rfl
       refine take_ (i := 7) (N := some 40) (v := ?_) (a' := ?_) #[true, true, true, true, true, true, true, true, true, false, false, false, false] rfl rfl (by kernel_rfl) (fun _ _ _ h => h) (Or.inl ⟨by rfl, ?_⟩) hHeld ?_ ?_
       rotate_left
       ·
        rintro w' ⟨s0, s1⟩
        go_simp
        with_reducible rfl
       rotate_left
       ·
        simp only [Act.put, List.setIfInBounds_toArray, List.set_cons_zero, List.set_cons_succ, i64_w, i32_w]
        rfl
       refine take_ (i := 9) (N := some 42) (v := ?_) (a' := ?_) #[true, true, true, true, true, true, true, true, true, true, false, false, false] rfl rfl (by kernel_rfl) (fun _ _ _ h => h) (Or.inl ⟨by rfl, ?_⟩) hHeld ?_ ?_
       rotate_left
       ·
        rintro w' ⟨s0, s1⟩
        go_simp
        with_reducible rfl
       rotate_left
       ·
        simp only [Act.put, List.setIfInBounds_toArray, List.set_cons_zero, List.set_cons_succ, i64_w, i32_w]
        rfl
       refine pure_ (i := 10) (N := some 43) (v := ?_) (a' := ?_) #[true, true, true, true, true, true, true, true, true, true, true, false, false] rfl rfl (by kernel_rfl) (fun _ _ _ h => h) (Or.inl ⟨by rfl, ?_⟩) ?_ ?_
       rotate_left
       ·
        intro w'
        go_simp
        with_reducible rfl
       rotate_left
       ·
        simp only [Act.put, List.setIfInBounds_toArray, List.set_cons_zero, List.set_cons_succ, i64_w, i32_w]
        rfl
       refine pure_ (i := 11) (N := some 44) (v := ?_) (a' := ?_) #[true, true, true, true, true, true, true, true, true, true, true, true, false] rfl rfl (by kernel_rfl) (fun _ _ _ h => h) (Or.inl ⟨by rfl, ?_⟩) ?_ ?_
       rotate_left
       ·
        intro w'
        go_simp
        with_reducible rfl
       rotate_left
       ·
        simp only [Act.put, List.setIfInBounds_toArray, List.set_cons_zero, List.set_cons_succ, i64_w, i32_w]
        rfl
       refine pure_ (i := 12) (N := some 45) (v := ?_) (a' := ?_) #[true, true, true, true, true, true, true, true, true, true, true, true, true] rfl rfl (by kernel_rfl) (fun _ _ _ h => h) (Or.inl ⟨by rfl, ?_⟩) ?_ ?_
       rotate_left
       ·
        intro w'
        go_simp
        with_reducible rfl
       rotate_left
       ·
        simp only [Act.put, List.setIfInBounds_toArray, List.set_cons_zero, List.set_cons_succ, i64_w, i32_w]
        rfl
       refine done_ (by kernel_rfl) ?_
       go_wp2
       go_ret
       exact ⟨rfl, hb3⟩
      ·
       obtain rfl := may_no (.inr (.inr (.inr (.inr (by simp [chkB, hq, t5]))))) h
       have b5 : (nx != (l0_0.length : Int)) = true := by simp [t5]
       have HQ := Aside0.mk hq
       clear h t1 t2 t3 t4 hq t5
       go_enter Tryd.func11, Tryd.ntmps11
       go_wp2
       refine start_ (n := 13) (S := fun w' => True) (ds := []) #[false, false, false, false, false, false, false, false, false, false, false, false, false] (by kernel_rfl) rfl rfl trivial (fun hHeld => ?_)
       refine pure_ (i := 0) (N := some 33) (v := ?_) (a' := ?_) #[true, false, false, false, false, false, false, false, false, false, false, false, false] rfl rfl (by kernel_rfl) (fun _ _ _ h => h) (Or.inl ⟨by rfl, ?_⟩) ?_ ?_
       rotate_left
       ·
        intro w'
        go_simp
        with_reducible rfl
       rotate_left
       ·
        simp only [Act.put, List.setIfInBounds_toArray, List.set_cons_zero, List.set_cons_succ, i64_w, i32_w]
        rfl
       refine one_ (i := 1) (N := some 34) #[true, true, false, false, false, false, false, false, false, false, false, false, false] rfl rfl (by kernel_rfl) (by decide) (fun K hK => ?_)
       refine goes_ Tryd.func45 (by kernel_rfl) rfl #[.pointer (some ⟨w.heap.size + 1, 0, none⟩), .int .i64 0] (by rfl) rfl rfl (by simp only [List.map_toArray, List.map_cons, List.map_nil]; rfl) ?_
       with_reducible refine (root_calls l0_0 (some ad) c0_0 w HR.out hc0_0 HG.out _ _ HQ.out).mono ?_
       rintro e w3 ⟨rfl, hc1, hc2, hb3⟩
       refine ⟨_, rfl, ?_⟩
       refine hK.out _ _ trivial (fun _ => ?_)
       clear hK K
       refine norm_ (a' := ?_) ?_ ?_
       rotate_left
       ·
        show Act.put _ (some 34) _ = _
        simp only [Act.put, List.setIfInBounds_toArray, List.set_cons_zero, List.set_cons_succ, i64_w, i32_w]
        rfl
       refine restate_ (S' := fun w' => w'.cell? ⟨w.heap.size + 1, 1, none⟩ = some (.int .i64 nx) ∧ w'.cell? ⟨w.heap.size, 0, none⟩ = some (.slice (some ad) l0_0.length c0_0)) (ds' := []) ?_
       have hHeld := And.intro hc1 hc2
       refine pure_ (i := 2) (N := some 35) (v := ?_) (a' := ?_) #[true, true, true, false, false, false, false, false, false, false, false, false, false] rfl rfl (by kernel_rfl) (fun _ _ _ h => h) (Or.inl ⟨by rfl, ?_⟩) ?_ ?_
       rotate_left
       ·
        intro w'
        go_simp
        with_reducible rfl
       rotate_left
       ·
        simp only [Act.put, List.setIfInBounds_toArray, List.set_cons_zero, List.set_cons_succ, i64_w, i32_w]
        rfl
       refine pure_ (i := 3) (N := some 36) (v := ?_) (a' := ?_) #[true, true, true, true, false, false, false, false, false, false, false, false, false] rfl rfl (by kernel_rfl) (fun _ _ _ h => h) (Or.inl ⟨by rfl, ?_⟩) ?_ ?_
       rotate_left
       ·
        intro w'
        go_simp
        with_reducible rfl
       rotate_left
       ·
        simp only [Act.put, List.setIfInBounds_toArray, List.set_cons_zero, List.set_cons_succ, i64_w, i32_w]
        rfl
       refine pure_ (i := 4) (N := some 37) (v := ?_) (a' := ?_) #[true, true, true, true, true, false, false, false, false, false, false, false, false] rfl rfl (by kernel_rfl) (fun _ _ _ h => h) (Or.inl ⟨by rfl, ?_⟩) ?_ ?_
       rotate_left
       ·
        intro w'
        go_simp
        with_reducible rfl
       rotate_left
       ·
        simp only [Act.put, List.setIfInBounds_toArray, List.set_cons_zero, List.set_cons_succ, i64_w, i32_w]
        rfl
       refine pure_ (i := 5) (N := some 38) (v := ?_) (a' := ?_) #[true, true, true, true, true, true, false, false, false, false, false, false, false] rfl rfl (by kernel_rfl) (fun _ _ _ h => h) (Or.inl ⟨by rfl, ?_⟩) ?_ ?_
       rotate_left
       ·
        intro w'
        go_simp
        with_reducible rfl
       rotate_left
       ·
        simp only [Act.put, List.setIfInBounds_toArray, List.set_cons_zero, List.set_cons_succ, i64_w, i32_w]
        rfl
       refine pure_ (i := 6) (N := some 39) (v := ?_) (a' := ?_) #[true, true, true, true, true, true, true, false, false, false, false, false, false] rfl rfl (by kernel_rfl) (fun _ _ _ h => h) (Or.inl ⟨by rfl, ?_⟩) ?_ ?_
       rotate_left
       ·
        intro w'
        go_simp
        with_reducible rfl
       rotate_left
       ·
        simp only [Act.put, List.setIfInBounds_toArray, List.set_cons_zero, List.set_cons_succ, i64_w, i32_w]
        rfl
       refine pure_ (i := 8) (N := some 41) (v := ?_) (a' := ?_) #[true, true, true, true, true, true, true, false, true, false, false, false, false] rfl rfl (by kernel_rfl) (fun _ _ _ h => h) (Or.inl ⟨by rfl, ?_⟩) ?_ ?_
       rotate_left
       ·
        intro w'
        go_simp
        with_reducible rfl
       rotate_left
       ·
        simp only [Act.put, List.setIfInBounds_toArray, List.set_cons_zero, List.set_cons_succ, i64_w, i32_w]
        rfl
       refine take_ (i := 7) (N := some 40) (v := ?_) (a' := ?_) #[true, true, true, true, true, true, true, true, true, false, false, false, false] rfl rfl (by kernel_rfl) (fun _ _ _ h => h) (Or.inl ⟨by rfl, ?_⟩) hHeld ?_ ?_
       rotate_left
       ·
        rintro w' ⟨s0, s1⟩
        go_simp
        with_reducible rfl
       rotate_left
       ·
        simp only [Act.put, List.setIfInBounds_toArray, List.set_cons_zero, List.set_cons_succ, i64_w, i32_w]
        rfl
       refine take_ (i := 9) (N := some 42) (v := ?_) (a' := ?_) #[true, true, true, true, true, true, true, true, true, true, false, false, false] rfl rfl (by kernel_rfl) (fun _ _ _ h => h) (Or.inl ⟨by rfl, ?_⟩) hHeld ?_ ?_
       rotate_left
       ·
        rintro w' ⟨s0, s1⟩
        go_simp
        with_reducible rfl
       rotate_left
       ·
        simp only [Act.put, List.setIfInBounds_toArray, List.set_cons_zero, List.set_cons_succ, i64_w, i32_w]
        rfl
       refine pure_ (i := 10) (N := some 43) (v := ?_) (a' := ?_) #[true, true, true, true, true, true, true, true, true, true, true, false, false] rfl rfl (by kernel_rfl) (fun _ _ _ h => h) (Or.inl ⟨by rfl, ?_⟩) ?_ ?_
       rotate_left
       ·
        intro w'
        go_simp
        with_reducible rfl
       rotate_left
       ·
        simp only [Act.put, List.setIfInBounds_toArray, List.set_cons_zero, List.set_cons_succ, i64_w, i32_w]
        rfl
       refine pure_ (i := 11) (N := some 44) (v := ?_) (a' := ?_) #[true, true, true, true, true, true, true, true, true, true, true, true, false] rfl rfl (by kernel_rfl) (fun _ _ _ h => h) (Or.inl ⟨by rfl, ?_⟩) ?_ ?_
       rotate_left
       ·
        intro w'
        go_simp
        with_reducible rfl
       rotate_left
       ·
        simp only [Act.put, List.setIfInBounds_toArray, List.set_cons_zero, List.set_cons_succ, i64_w, i32_w]
        rfl
       refine pure_ (i := 12) (N := some 45) (v := ?_) (a' := ?_) #[true, true, true, true, true, true, true, true, true, true, true, true, true] rfl rfl (by kernel_rfl) (fun _ _ _ h => h) (Or.inl ⟨by rfl, ?_⟩) ?_ ?_
       rotate_left
       ·
        intro w'
        go_simp
        with_reducible rfl
       rotate_left
       ·
        simp only [Act.put, List.setIfInBounds_toArray, List.set_cons_zero, List.set_cons_succ, i64_w, i32_w]
        rfl
       refine done_ (by kernel_rfl) ?_
       go_wp2
       go_ret
       exact ⟨rfl, hb3⟩
    ·
     obtain rfl := may_no (.inr (.inr (.inr (.inl t4)))) h
     have b4 : ((rd_T33 l0_0 0).f2 != 0) = true := by simp [t4]
     clear h t1 t2 t3 t4
     go_enter Tryd.func11, Tryd.ntmps11
     go_wp2
     go_ret
     exact ⟨rfl, below_alloc (Below.refl _ _) _⟩
   ·
    obtain rfl := may_no (.inr (.inr (.inl t3))) h
    have b3 : ((rd_T33 l0_0 0).f0 != 1) = true := by simp [t3]
    clear h t1 t2 t3
    go_enter Tryd.func11, Tryd.ntmps11
    go_wp2
    go_ret
    exact ⟨rfl, below_alloc (Below.refl _ _) _⟩
end Go.Proofs.YtafbmlhgcmlmpaaDoor.PT
