/- The contract of tree.Text: what a tree that may be says. -/
import Derived.Test.YtafbmlhgcmlmpaaDoorTText0
import Derived.Test.YtafbmlhgcmlmpaaDoorShelfItoa
import Derived.Lib.AppendIntMem
namespace Go.Proofs.YtafbmlhgcmlmpaaDoor.PT
open Go.RowKit Go.Shelf Go.Sort Go.Proofs.YtafbmlhgcmlmpaaDoorW.PrintWords Go.Proofs.YtafbmlhgcmlmpaaDoorW.PrintLast Go.Proofs.YtafbmlhgcmlmpaaDoorW.PrintMore
set_option linter.unusedVariables false
set_option linter.unusedSimpArgs false
def ofB (l : List ByteArray) (i : Int) : ByteArray := (tree_of.f l i).getD ByteArray.empty
theorem of_f (l : List ByteArray) (i : Int) : tree_of.f l i = some (ofB l i) := by
 unfold ofB tree_of.f
 repeat' split
 all_goals first | rfl | (exfalso; omega)
def itoaB (n : Int) : ByteArray := ⟨(Lib.itoa n).toArray⟩
def okN (x : S33) : Bool :=
 if x.f0 = 1 then true
 else if x.f0 = 2 ∨ x.f0 = 4 then decide (0 < x.f1) && decide (x.f1 ≤ 9223372036854775807)
 else if x.f0 = 3 then decide (0 ≤ x.f2) && decide (x.f2 ≤ 9223372036854775807) && decide (0 ≤ x.f3) && decide (x.f3 ≤ 9223372036854775807)
 else decide (0 ≤ x.f1) && decide (x.f1 ≤ 9223372036854775807)
def kidsT (f : Int → Option (List UInt8)) : List Int → Option (List UInt8)
 | [] => some []
 | k :: ks => (f k).bind fun t => (kidsT f ks).bind fun s => some (32 :: t ++ s)
def bodyT (f : Int → Option (List UInt8)) (rules toks : List ByteArray) (x : S33) : Option (List UInt8) :=
 if x.f0 = 1 then (kidsT f x.f5).bind fun s => some (((⟨#[40]⟩ : ByteArray) ++ ofB rules x.f1).data.toList ++ (s ++ [41]))
 else if x.f0 = 2 then some (ofB toks (wrap64 (x.f1 - 1))).data.toList
 else if x.f0 = 3 then some ((((⟨#[60]⟩ : ByteArray) ++ itoaB x.f2) ++ ⟨#[46, 46]⟩ ++ itoaB x.f3) ++ ⟨#[62]⟩).data.toList
 else if x.f0 = 4 then some ((⟨#[33]⟩ : ByteArray) ++ ofB toks (wrap64 (x.f1 - 1))).data.toList
 else some ((⟨#[63]⟩ : ByteArray) ++ itoaB x.f1).data.toList
def labT (x : S33) : List UInt8 := if x.f4.toList = [] then [] else (x.f4 ++ ⟨#[58]⟩).data.toList
def nodeT : Nat → List S33 → List ByteArray → List ByteArray → Int → Option (List UInt8)
 | 0, _, _, _, _ => none
 | n + 1, l, rules, toks, i => if 0 ≤ i ∧ i < l.length ∧ okN (rd_T33 l i) = true then (bodyT (nodeT n l rules toks) rules toks (rd_T33 l i)).bind fun s => some (labT (rd_T33 l i) ++ s) else none
def PN (B g : Nat) (a b c : Value) (bs : List UInt8) (w : World) : Prop := ∃ p, (p = .pointer none ∨ p = .pointer (some ⟨g, 3, none⟩)) ∧ PAt B g a b c p (Lib.byteCells bs) w
theorem PN.cell {B g : Nat} {a b c : Value} {bs : List UInt8} {w : World} (h : PN B g a b c bs w) : w.cell? ⟨g, 0, none⟩ = some a ∧ w.cell? ⟨g, 1, none⟩ = some b ∧ w.cell? ⟨g, 2, none⟩ = some c ∧ g < w.heap.size := by
 obtain ⟨p, _, _, v, hb, _⟩ := h
 refine ⟨?_, ?_, ?_, blk_lt hb⟩ <;> (rw [Lib.cell_of_heap hb]; rfl)
theorem PN.drew {B g : Nat} {a b c : Value} {bs : List UInt8} {w : World} (h : PN B g a b c bs w) : PN B g a b c bs w.drew := h
theorem PN.alloc {B g : Nat} {a b c : Value} {bs : List UInt8} {w : World} (h : PN B g a b c bs w) (o : Obj) : PN B g a b c bs (w.alloc o) := by
 obtain ⟨p, hp, hB, v, hb, ho, hn⟩ := h
 exact ⟨p, hp, hB, v, blk_alloc hb o, ho.alloc o, hn⟩
theorem PN.below {B g : Nat} {a b c : Value} {bs : List UInt8} {w w' : World} (h : PN B g a b c bs w) (hg : Below w.heap.size w w') : PN B g a b c bs w' := by
 obtain ⟨p, hp, hB, v, hb, ho, hn⟩ := h
 refine ⟨p, hp, hB, v, (hg.block g (blk_lt hb)).trans hb, (KeepBut.of_below hg g none).own ho hn ?_, hn⟩
 cases v.ownBlock with
 | none => exact .inl rfl
 | some k => exact .inr (by intro e; cases e)
theorem PN.write {B g : Nat} {a b c : Value} {bs : List UInt8} {w : World} (h : PN B g a b c bs w) (s : ByteArray) (hlen : bs.length + s.data.toList.length ≤ 140737488355328) (hBw : B ≤ w.heap.size) :
  Calls Tryd.prog 57 #[.pointer (some ⟨g, 3, none⟩), .string s] w fun e w' => (∃ n : Int, e = .returned (.tuple #[.int .i64 n, .nilIface])) ∧ PN B g a b c (bs ++ s.data.toList) w' ∧ Below B w w' ∧ Lib.OthersKept 5 (some g) w w' := by
 obtain ⟨p, hp, h⟩ := h
 refine (write_any B g a b c p _ s w hp h (by rw [Lib.byteCells_length]; exact hlen) hBw).mono ?_
 rintro e w' ⟨he, h1, h2, h3⟩
 exact ⟨⟨_, he⟩, ⟨_, .inr rfl, by rw [Lib.byteCells_append, ← Lib.strCells_eq]; exact h1⟩, h2, h3⟩
def NodeTP (w0 : World) (g : Nat) (a b c : Value) (w : World) (bs : List UInt8) (e : Ending) (w' : World) : Prop :=
 e = .returned (.tuple #[]) ∧ PN w0.heap.size g a b c bs w' ∧ Below w0.heap.size w0 w' ∧ Lib.OthersKept 5 (some g) w w'
theorem ok_below {w0 w w' : World} {g : Nat} (h : Lib.OthersKept 5 (some g) w0 w) (hb : Below w.heap.size w w') : Lib.OthersKept 5 (some g) w0 w' := fun k o hk hn ho => (hb.block k (blk_lt (h k o hk hn ho))).trans (h k o hk hn ho)
theorem itoa_call (n : Int) (h0 : -9223372036854775808 ≤ n) (h1 : n ≤ 9223372036854775807) (w : World) (htab : Lib.TabIs Tryd.prog w "internal/strconv.uint64pow10" .u64 Lib.pow10Tab) :
  Calls Tryd.prog 80 #[.int .i64 n] w fun e w' => e = .returned (.string (itoaB n)) ∧ Below w.heap.size w w' := by
 refine (Tryd.strconv_Itoa n h0 h1 w htab).mono ?_
 rintro e w' ⟨rfl, k, os, rfl⟩
 exact ⟨rfl, Lib.below_grow _ _ (Nat.le_refl _) k os⟩
theorem sz (a : ByteArray) : a.data.toList.length = a.size := Array.length_toList
theorem lab_size {x : S33} (hl : x.f4.toList ≠ []) : labT x = (x.f4 ++ ⟨#[58]⟩).data.toList := by simp [labT, hl]
theorem ok_of {w w' : World} {g : Nat} {o : Obj} {N : Nat} (h : Lib.OthersKept 5 (some g) w w') (hb : w.heap[N]? = some o) (hn : N ≠ g) (ho : ∀ c fz, o ≠ .cells c 5 fz) : w'.heap[N]? = some o := h N o hb (by simpa using hn) ho
set_option maxHeartbeats 4000000 in
set_option maxRecDepth 1000000 in
theorem node_text (l : List S33) (rules toks : List ByteArray) (A A1 A2 : Option Addr) (c c1 c2 : Nat) (w0 : World) (hr : Kd.C k33 w0 A l.length l) (hc : l.length ≤ c) (hr1 : Kd.C Kd.string w0 A1 rules.length rules) (hc1 : rules.length ≤ c1) (hr2 : Kd.C Kd.string w0 A2 toks.length toks) (hc2 : toks.length ≤ c2) (hG : GL w0) (n : Nat) :
  ∀ (i : Int) (out bs : List UInt8) (w : World) (g : Nat), nodeT n l rules toks i = some out → bs.length + out.length ≤ 70368744177664 → Below w0.heap.size w0 w → PN w0.heap.size g (.slice A l.length c) (.slice A1 rules.length c1) (.slice A2 toks.length c2) bs w →
   Calls Tryd.prog 49 #[.pointer (some ⟨g, 0, none⟩), .int .i64 i] w (NodeTP w0 g (.slice A l.length c) (.slice A1 rules.length c1) (.slice A2 toks.length c2) w (bs ++ out)) := by
 induction n with
 | zero => intro i out bs w g h; cases h
 | succ n ih =>
  intro i out bs w g h hlen hb hp
  unfold nodeT at h
  split at h
  case isFalse => cases h
  rename_i hi
  obtain ⟨hi0, hi1, hok⟩ := hi
  obtain ⟨s, hs, ho⟩ := Option.bind_eq_some_iff.1 h
  obtain rfl := Option.some.inj ho
  clear h ho
  obtain ⟨ad, A5, c5, hA, e0, e1, e2, e3, e4, e5, l5, g5⟩ := at_T33 hr i hi0 hi1
  replace e0 := pw_cell_below hb e0
  replace e1 := pw_cell_below hb e1
  replace e2 := pw_cell_below hb e2
  replace e3 := pw_cell_below hb e3
  replace e4 := pw_cell_below hb e4
  replace e5 := pw_cell_below hb e5
  obtain ⟨p0, p1, p2, plt⟩ := hp.cell
  subst hA
  have IH := Aside0.mk ih
  have HB := Aside0.mk hb
  have HG := Aside0.mk hG
  have HR1 := Aside0.mk hr1
  have HR2 := Aside0.mk hr2
  have HP := Aside0.mk hp
  have L5 := Aside0.mk l5
  have G5 := Aside0.mk g5
  have HS := Aside0.mk hs
  have HL := Aside0.mk hlen
  have HOK := Aside0.mk hok
  clear ih hb hG hr1 hr2 hp l5 g5 hs hlen hok
  have hu33 := Tryd.underlying33
  have hu24 := Tryd.underlying24
  have hu94 := Tryd.underlying94
  have hu92 := Tryd.underlying92
  generalize rd_T33 l i = x at *
  have hlt : ∀ o, (w.alloc o).cell? ⟨g, 0, none⟩ = some (.slice (some ad) l.length c) := fun o => (HP.out.alloc o).cell.1
  have hng : w.heap.size ≠ g := by omega
  rw [← List.append_assoc]
  obtain ⟨bs1, hbs1⟩ : ∃ bs1, bs ++ labT x = bs1 := ⟨_, rfl⟩
  rw [hbs1]
  have HBS := Aside0.mk hbs1
  have HL2 : Aside0 (bs1.length + s.length ≤ 70368744177664) := ⟨by have := HL.out; rw [← hbs1]; simp only [List.length_append] at this ⊢; omega⟩
  clear hbs1
  go_enter Tryd.func49, Tryd.ntmps49
  go_upto_if 17 with fail
  go_cut [] (fun wc => Aside0 (wc.heap[w.heap.size]? = some (.cells #[.int .i64 x.f0, .int .i64 x.f1, .int .i64 x.f2, .int .i64 x.f3, .string x.f4, .slice A5 x.f5.length c5] 33 (0, 0)))
    ∧ Aside0 (PN w0.heap.size g (.slice (some ad) l.length c) (.slice A1 rules.length c1) (.slice A2 toks.length c2) bs1 wc) ∧ Aside0 (Below w0.heap.size w0 wc) ∧ Aside0 (Lib.OthersKept 5 (some g) w wc))
  case first =>
   by_cases hl : x.f4.toList = []
   ·
    have b0 : x.f4.toList.isEmpty = true := by simp [hl]
    have HN : Aside0 (bs1 = bs) := ⟨by rw [← HBS.out]; simp [labT, hl]⟩
    clear hl
    rw [b0]
    go_wp2
    go_meet
    case rel => exact ⟨⟨heap_alloc_new w _⟩, ⟨by rw [HN.out]; exact HP.out.alloc _⟩, ⟨HB.out.alloc HB.out.size _⟩, ⟨(Lib.OthersKept.refl _ _ w).alloc _⟩⟩
   ·
    have b0 : x.f4.toList.isEmpty = false := by simp [hl]
    have HN := Aside0.mk (lab_size hl)
    have HW : Aside0 (bs.length + (x.f4 ++ ⟨#[58]⟩).data.toList.length ≤ 140737488355328) := ⟨by have := HL.out; rw [HN.out] at this; simp only [List.length_append] at this; omega⟩
    have hz : ¬ (9223372036854775807 < x.f4.size + 1) := by
     have z := HW.out
     rw [sz, ByteArray.size_append, show (⟨#[58]⟩ : ByteArray).size = 1 from rfl] at z
     omega
    have HX := Aside0.mk (heap_alloc_new w (.cells #[.int .i64 x.f0, .int .i64 x.f1, .int .i64 x.f2, .int .i64 x.f3, .string x.f4, .slice A5 x.f5.length c5] 33))
    have hx4 := blk_cell HX.out 4
    simp only [List.getElem?_toArray, List.getElem?_cons_zero, List.getElem?_cons_succ] at hx4
    clear hl
    rw [b0]
    go_wp2
    refine start_ (n := 7) (S := fun w' => w'.cell? ⟨w.heap.size, 4, none⟩ = some (.string x.f4)) (ds := [6]) #[false, false, false, false, false, false, false] (by kernel_rfl) rfl rfl (hx4) (fun hHeld => ?_)
    refine pure_ (i := 0) (N := some 18) (v := ?_) (a' := ?_) #[true, false, false, false, false, false, false] rfl rfl (by kernel_rfl) (fun _ _ _ h => h) (Or.inl ⟨by rfl, ?_⟩) ?_ ?_
    rotate_left
    ·
     intro w'
     go_simp
     with_reducible rfl
    rotate_left
    ·
     simp only [Act.put, List.setIfInBounds_toArray, List.set_cons_zero, List.set_cons_succ, i64_w, i32_w]
     rfl
    refine pure_ (i := 1) (N := some 19) (v := ?_) (a' := ?_) #[true, true, false, false, false, false, false] rfl rfl (by kernel_rfl) (fun _ _ _ h => h) (Or.inl ⟨by rfl, ?_⟩) ?_ ?_
    rotate_left
    ·
     intro w'
     go_simp
     with_reducible rfl
    rotate_left
    ·
     simp only [Act.put, List.setIfInBounds_toArray, List.set_cons_zero, List.set_cons_succ, i64_w, i32_w]
     rfl
    refine pure_ (i := 2) (N := some 20) (v := ?_) (a' := ?_) #[true, true, true, false, false, false, false] rfl rfl (by kernel_rfl) (fun _ _ _ h => h) (Or.inl ⟨by rfl, ?_⟩) ?_ ?_
    rotate_left
    ·
     intro w'
     go_simp
     with_reducible rfl
    rotate_left
    ·
     simp only [Act.put, List.setIfInBounds_toArray, List.set_cons_zero, List.set_cons_succ, i64_w, i32_w]
     rfl
    refine pure_ (i := 3) (N := some 21) (v := ?_) (a' := ?_) #[true, true, true, true, false, false, false] rfl rfl (by kernel_rfl) (fun _ _ _ h => h) (Or.inl ⟨by rfl, ?_⟩) ?_ ?_
    rotate_left
    ·
     intro w'
     go_simp
     with_reducible rfl
    rotate_left
    ·
     simp only [Act.put, List.setIfInBounds_toArray, List.set_cons_zero, List.set_cons_succ, i64_w, i32_w]
     rfl
    refine take_ (i := 4) (N := some 22) (v := ?_) (a' := ?_) #[true, true, true, true, true, false, false] rfl rfl (by kernel_rfl) (fun _ _ _ h => h) (Or.inl ⟨by rfl, ?_⟩) hHeld ?_ ?_
    rotate_left
    ·
     intro w' s0
     go_simp
     with_reducible rfl
    rotate_left
    ·
     simp only [Act.put, List.setIfInBounds_toArray, List.set_cons_zero, List.set_cons_succ, i64_w, i32_w]
     rfl
    refine pure_ (i := 5) (N := some 23) (v := ?_) (a' := ?_) #[true, true, true, true, true, true, false] rfl rfl (by kernel_rfl) (fun _ _ _ h => h) (Or.inl ⟨by rfl, ?_⟩) ?_ ?_
    rotate_left
    ·
     intro w'
     go_simp
     with_reducible rfl
    rotate_left
    ·
     simp only [Act.put, List.setIfInBounds_toArray, List.set_cons_zero, List.set_cons_succ, i64_w, i32_w]
     rfl
    refine last_ (i := 6) (N := some 24) #[true, true, true, true, true, true, true] rfl rfl (by kernel_rfl) (by decide) (fun K hK => ?_)
    refine goes_ Tryd.func57 (by kernel_rfl) rfl #[.pointer (some ⟨g, 3, none⟩), .string (x.f4 ++ ⟨#[58]⟩)] (by rfl) rfl rfl (by simp only [List.map_toArray, List.map_cons, List.map_nil]; rfl) ?_
    with_reducible refine (PN.write (PN.drew (PN.alloc HP.out _)) (x.f4 ++ ⟨#[58]⟩) HW.out (Below.drew (HB.out.alloc HB.out.size _)).size).mono ?_
    rintro e w4 ⟨⟨n4, rfl⟩, hp4, hb4, hk4⟩
    refine ⟨_, rfl, ?_⟩
    refine hK.out _ _ ?_
    clear hK K
    refine norm_ (a' := ?_) ?_ ?_
    rotate_left
    ·
     show Act.put _ (some 24) _ = _
     simp only [Act.put, List.setIfInBounds_toArray, List.set_cons_zero, List.set_cons_succ, i64_w, i32_w]
     rfl
    refine done_ (by kernel_rfl) ?_
    go_wp2
    go_meet
    case rel => exact ⟨⟨ok_of hk4 HX.out hng (by simp)⟩, ⟨by rw [← HBS.out, HN.out]; exact hp4⟩, ⟨(Below.drew (HB.out.alloc HB.out.size _)).trans hb4⟩, ⟨((Lib.OthersKept.refl _ _ w).alloc _).drew.trans hk4⟩⟩
  case rest =>
   obtain ⟨HX, HPc, HBc, HKc⟩ := hcut
   have hx0 := blk_cell HX.out 0
   have hx1 := blk_cell HX.out 1
   have hx2 := blk_cell HX.out 2
   have hx3 := blk_cell HX.out 3
   simp only [List.getElem?_toArray, List.getElem?_cons_zero, List.getElem?_cons_succ] at hx0 hx1 hx2 hx3
   obtain ⟨_, hq1, hq2, hqlt⟩ := HPc.out.cell
   clear e0 e1 e2 e3 e4 e5 p0 p1 p2 plt hlt HL HP HB HBS
   have ok := HOK.out
   have hS := HS.out
   clear HOK HS
   unfold okN at ok
   unfold bodyT at hS
   by_cases k1 : x.f0 = 1
   ·
    rw [if_pos k1] at hS
    have b1 : (x.f0 == 1) = true := by simp [k1]
    obtain ⟨s1, hk, hs1⟩ := Option.bind_eq_some_iff.1 hS
    obtain rfl := Option.some.inj hs1
    have HK1 := Aside0.mk hk
    have HW : Aside0 (bs1.length + ((⟨#[40]⟩ : ByteArray) ++ ofB rules x.f1).data.toList.length ≤ 140737488355328) := ⟨by have := HL2.out; simp only [List.length_append] at this ⊢; omega⟩
    have hz : ¬ (9223372036854775807 < 1 + (ofB rules x.f1).size) := by
     have z := HW.out
     rw [sz, ByteArray.size_append, show (⟨#[40]⟩ : ByteArray).size = 1 from rfl] at z
     omega
    clear hS hk hs1 ok k1
    go_wp2
    refine start_ (n := 12) (S := fun w' => w'.cell? ⟨g, 1, none⟩ = some (.slice A1 rules.length c1) ∧ w'.cell? ⟨w.heap.size, 1, none⟩ = some (.int .i64 x.f1)) (ds := [11]) #[false, false, false, false, false, false, false, false, false, false, false, false] (by kernel_rfl) rfl rfl ⟨hq1, hx1⟩ (fun hHeld => ?_)
    refine pure_ (i := 0) (N := some 37) (v := ?_) (a' := ?_) #[true, false, false, false, false, false, false, false, false, false, false, false] rfl rfl (by kernel_rfl) (fun _ _ _ h => h) (Or.inl ⟨by rfl, ?_⟩) ?_ ?_
    rotate_left
    ·
     intro w'
     go_simp
     with_reducible rfl
    rotate_left
    ·
     simp only [Act.put, List.setIfInBounds_toArray, List.set_cons_zero, List.set_cons_succ, i64_w, i32_w]
     rfl
    refine pure_ (i := 1) (N := some 38) (v := ?_) (a' := ?_) #[true, true, false, false, false, false, false, false, false, false, false, false] rfl rfl (by kernel_rfl) (fun _ _ _ h => h) (Or.inl ⟨by rfl, ?_⟩) ?_ ?_
    rotate_left
    ·
     intro w'
     go_simp
     with_reducible rfl
    rotate_left
    ·
     simp only [Act.put, List.setIfInBounds_toArray, List.set_cons_zero, List.set_cons_succ, i64_w, i32_w]
     rfl
    refine pure_ (i := 2) (N := some 39) (v := ?_) (a' := ?_) #[true, true, true, false, false, false, false, false, false, false, false, false] rfl rfl (by kernel_rfl) (fun _ _ _ h => h) (Or.inl ⟨by rfl, ?_⟩) ?_ ?_
    rotate_left
    ·
     intro w'
     go_simp
     with_reducible rfl
    rotate_left
    ·
     simp only [Act.put, List.setIfInBounds_toArray, List.set_cons_zero, List.set_cons_succ, i64_w, i32_w]
     rfl
    refine pure_ (i := 3) (N := some 40) (v := ?_) (a' := ?_) #[true, true, true, true, false, false, false, false, false, false, false, false] rfl rfl (by kernel_rfl) (fun _ _ _ h => h) (Or.inl ⟨by rfl, ?_⟩) ?_ ?_
    rotate_left
    ·
     intro w'
     go_simp
     with_reducible rfl
    rotate_left
    ·
     simp only [Act.put, List.setIfInBounds_toArray, List.set_cons_zero, List.set_cons_succ, i64_w, i32_w]
     rfl
    refine pure_ (i := 4) (N := some 41) (v := ?_) (a' := ?_) #[true, true, true, true, true, false, false, false, false, false, false, false] rfl rfl (by kernel_rfl) (fun _ _ _ h => h) (Or.inl ⟨by rfl, ?_⟩) ?_ ?_
    rotate_left
    ·
     intro w'
     go_simp
     with_reducible rfl
    rotate_left
    ·
     simp only [Act.put, List.setIfInBounds_toArray, List.set_cons_zero, List.set_cons_succ, i64_w, i32_w]
     rfl
    refine pure_ (i := 5) (N := some 42) (v := ?_) (a' := ?_) #[true, true, true, true, true, true, false, false, false, false, false, false] rfl rfl (by kernel_rfl) (fun _ _ _ h => h) (Or.inl ⟨by rfl, ?_⟩) ?_ ?_
    rotate_left
    ·
     intro w'
     go_simp
     with_reducible rfl
    rotate_left
    ·
     simp only [Act.put, List.setIfInBounds_toArray, List.set_cons_zero, List.set_cons_succ, i64_w, i32_w]
     rfl
    refine pure_ (i := 7) (N := some 44) (v := ?_) (a' := ?_) #[true, true, true, true, true, true, false, true, false, false, false, false] rfl rfl (by kernel_rfl) (fun _ _ _ h => h) (Or.inl ⟨by rfl, ?_⟩) ?_ ?_
    rotate_left
    ·
     intro w'
     go_simp
     with_reducible rfl
    rotate_left
    ·
     simp only [Act.put, List.setIfInBounds_toArray, List.set_cons_zero, List.set_cons_succ, i64_w, i32_w]
     rfl
    refine take_ (i := 6) (N := some 43) (v := ?_) (a' := ?_) #[true, true, true, true, true, true, true, true, false, false, false, false] rfl rfl (by kernel_rfl) (fun _ _ _ h => h) (Or.inl ⟨by rfl, ?_⟩) hHeld ?_ ?_
    rotate_left
    ·
     rintro w' ⟨s0, s1⟩
     go_simp
     with_reducible rfl
    rotate_left
    ·
     simp only [Act.put, List.setIfInBounds_toArray, List.set_cons_zero, List.set_cons_succ, i64_w, i32_w]
     rfl
    refine take_ (i := 8) (N := some 45) (v := ?_) (a' := ?_) #[true, true, true, true, true, true, true, true, true, false, false, false] rfl rfl (by kernel_rfl) (fun _ _ _ h => h) (Or.inl ⟨by rfl, ?_⟩) hHeld ?_ ?_
    rotate_left
    ·
     rintro w' ⟨s0, s1⟩
     go_simp
     with_reducible rfl
    rotate_left
    ·
     simp only [Act.put, List.setIfInBounds_toArray, List.set_cons_zero, List.set_cons_succ, i64_w, i32_w]
     rfl
    refine one_ (i := 9) (N := some 46) #[true, true, true, true, true, true, true, true, true, true, false, false] rfl rfl (by kernel_rfl) (by decide) (fun K hK => ?_)
    refine goes_ Tryd.func79 (by kernel_rfl) rfl #[.slice A1 rules.length c1, .int .i64 (x.f1)] (by rfl) rfl rfl (by simp only [List.map_toArray, List.map_cons, List.map_nil]; rfl) ?_
    with_reducible refine (tree_of.calls A1 c1 rules (x.f1) (ofB rules (x.f1)) _ (Kd.C_below HR1.out (Below.drew HBc.out)) hc1 (of_f _ _)).mono ?_
    rintro e w3 ⟨rfl, hd3⟩
    refine ⟨_, rfl, ?_⟩
    have hb3 := Drawn0.below hd3
    clear hd3
    refine hK.out _ _ ⟨(pw_cell_below hb3 hq1), (pw_cell_below hb3 hx1)⟩ (fun hHeld => ?_)
    clear hK K
    refine norm_ (a' := ?_) ?_ ?_
    rotate_left
    ·
     show Act.put _ (some 46) _ = _
     simp only [Act.put, List.setIfInBounds_toArray, List.set_cons_zero, List.set_cons_succ, i64_w, i32_w]
     rfl
    refine pure_ (i := 10) (N := some 47) (v := ?_) (a' := ?_) #[true, true, true, true, true, true, true, true, true, true, true, false] rfl rfl (by kernel_rfl) (fun _ _ _ h => h) (Or.inl ⟨by rfl, ?_⟩) ?_ ?_
    rotate_left
    ·
     intro w'
     go_simp
     with_reducible rfl
    rotate_left
    ·
     simp only [Act.put, List.setIfInBounds_toArray, List.set_cons_zero, List.set_cons_succ, i64_w, i32_w]
     rfl
    refine last_ (i := 11) (N := some 48) #[true, true, true, true, true, true, true, true, true, true, true, true] rfl rfl (by kernel_rfl) (by decide) (fun K hK => ?_)
    refine goes_ Tryd.func57 (by kernel_rfl) rfl #[.pointer (some ⟨g, 3, none⟩), .string ((⟨#[40]⟩ : ByteArray) ++ ofB rules x.f1)] (by rfl) rfl rfl (by simp only [List.map_toArray, List.map_cons, List.map_nil]; rfl) ?_
    with_reducible refine (PN.write (PN.below (PN.drew HPc.out) hb3) ((⟨#[40]⟩ : ByteArray) ++ ofB rules x.f1) HW.out (below_step (Below.drew HBc.out) hb3).size).mono ?_
    rintro e w4 ⟨⟨n4, rfl⟩, hp4, hb4, hk4⟩
    refine ⟨_, rfl, ?_⟩
    refine hK.out _ _ ?_
    clear hK K
    refine norm_ (a' := ?_) ?_ ?_
    rotate_left
    ·
     show Act.put _ (some 48) _ = _
     simp only [Act.put, List.setIfInBounds_toArray, List.set_cons_zero, List.set_cons_succ, i64_w, i32_w]
     rfl
    refine done_ (by kernel_rfl) ?_
    have HX4 := Aside0.mk (ok_of hk4 (show _ from (hb3.block _ (blk_lt HX.out)).trans HX.out) hng (by simp))
    have HP4 := Aside0.mk hp4
    have HB4 := Aside0.mk ((below_step (Below.drew HBc.out) hb3).trans hb4)
    have HK4 := Aside0.mk ((ok_below (HKc.out.drew) hb3).trans hk4)
    have hx5 := blk_cell HX4.out 5
    simp only [List.getElem?_toArray, List.getElem?_cons_zero, List.getElem?_cons_succ] at hx5
    clear hp4 hb4 hk4 hb3 hx0 hx1 hx2 hx3 hq1 hq2 hqlt
    obtain ⟨bs2, hbs2⟩ : ∃ bs2, bs1 ++ ((⟨#[40]⟩ : ByteArray) ++ ofB rules x.f1).data.toList = bs2 := ⟨_, rfl⟩
    have HBS2 := Aside0.mk hbs2
    have HL3 : Aside0 (bs2.length + s1.length + 1 ≤ 70368744177664) := ⟨by have := HL2.out; rw [← hbs2]; simp only [List.length_append, List.length_cons, List.length_nil] at this ⊢; omega⟩
    replace HP4 : Aside0 (PN w0.heap.size g (.slice (some ad) l.length c) (.slice A1 rules.length c1) (.slice A2 toks.length c2) bs2 w4) := ⟨by rw [← hbs2]; exact HP4.out⟩
    clear hbs2
    go_wp2
    go_loopw [52] (fun v52 wr => ∃ (j : Nat) (acc tail : List UInt8), v52 = .int .i64 j ∧ j ≤ x.f5.length ∧ Aside0 (kidsT (nodeT n l rules toks) (x.f5.drop j) = some tail) ∧ Aside0 (acc ++ tail = s1)
      ∧ Aside0 (PN w0.heap.size g (.slice (some ad) l.length c) (.slice A1 rules.length c1) (.slice A2 toks.length c2) (bs2 ++ acc) wr)
      ∧ Aside0 (wr.heap[w.heap.size]? = some (.cells #[.int .i64 x.f0, .int .i64 x.f1, .int .i64 x.f2, .int .i64 x.f3, .string x.f4, .slice A5 x.f5.length c5] 33 (0, 0)))
      ∧ Aside0 (Below w0.heap.size w0 wr) ∧ Aside0 (Lib.OthersKept 5 (some g) w wr)) (fun v52 _ => x.f5.length - (intOf v52).toNat)
    case atStart => exact ⟨0, [], s1, rfl, Nat.zero_le _, ⟨HK1.out⟩, ⟨rfl⟩, ⟨by rw [List.append_nil]; exact HP4.out⟩, HX4, HB4, HK4⟩
    case round =>
     obtain ⟨j, acc, tail, rfl, hj, HT, HACC, HPr, HXr, HBr, HKr⟩ := hrel
     clear hx5
     have hal : acc.length + tail.length = s1.length := by rw [← HACC.out, List.length_append]
     by_cases hjl : j < x.f5.length
     ·
      have hT := HT.out
      rw [drop_rd hjl] at hT
      obtain ⟨ak, hAk, ck⟩ := Kd.at_int (Kd.C_below G5.out HBr.out) (j : Int) (by omega) (by omega)
      subst hAk
      have hj64 : (j : Int) + 1 ≤ 9223372036854775807 := by have := G5.out.2.1; omega
      have hja : 0 ≤ (j : Int) := by omega
      have hjb : (j : Int) < (x.f5.length : Int) := by omega
      have hjc : ((j : Int)).toNat = j := by omega
      rw [hjc] at ck
      generalize rd x.f5 (j : Int) = kj at *
      simp only [kidsT] at hT
      obtain ⟨t, ht, hT2⟩ := Option.bind_eq_some_iff.1 hT
      obtain ⟨tl, htl, hT3⟩ := Option.bind_eq_some_iff.1 hT2
      have HTL : Aside0 (tail = 32 :: t ++ tl) := ⟨(Option.some.inj hT3).symm⟩
      have HT1 := Aside0.mk ht
      have HT2 := Aside0.mk htl
      have HWs : Aside0 ((bs2 ++ acc).length + (⟨#[32]⟩ : ByteArray).data.toList.length ≤ 140737488355328) := ⟨by have := HL3.out; simp only [List.length_append]; show _ + 1 ≤ _; omega⟩
      have HWt : Aside0 ((bs2 ++ acc ++ (⟨#[32]⟩ : ByteArray).data.toList).length + t.length ≤ 70368744177664) := ⟨by
       have := HL3.out
       rw [HTL.out] at hal
       simp only [List.length_append, List.length_cons] at hal ⊢
       show bs2.length + acc.length + 1 + _ ≤ _
       omega⟩
      clear hT hT2 hT3 ht htl HT hal
      go_wp2_with (first
       | (go_at_call 57; go_must (refine (PN.write HPr.out ⟨#[32]⟩ HWs.out HBr.out.size).mono ?_; rintro e w5 ⟨⟨n5, rfl⟩, hp5, hb5, hk5⟩; have HP5 := Aside0.mk hp5; have HB5 := Aside0.mk hb5; have HK5 := Aside0.mk hk5; clear hp5 hb5 hk5 ck))
       | (go_at_call 49; go_must (refine (IH.out kj t _ _ g HT1.out HWt.out (HBr.out.trans HB5.out) HP5.out).mono ?_; rintro e w6 ⟨rfl, hp6, hb6, hk6⟩; have HP6 := Aside0.mk hp6; have HB6 := Aside0.mk hb6; have HK6 := Aside0.mk hk6; clear hp6 hb6 hk6)))
      go_roundw
      case rel => exact ⟨j + 1, acc ++ (32 :: t), tl, by go_num, by omega, HT2, ⟨by rw [← HACC.out, HTL.out]; simp⟩, ⟨by have := HP6.out; simpa [List.append_assoc] using this⟩, ⟨ok_of HK6.out (ok_of HK5.out HXr.out hng (by simp)) hng (by simp)⟩, HB6, ⟨(HKr.out.trans HK5.out).trans HK6.out⟩⟩
      case measure => simp [intOf]; omega
     ·
      obtain rfl : j = x.f5.length := by omega
      have HTN : Aside0 (tail = []) := ⟨by have := HT.out; rw [List.drop_length] at this; exact (Option.some.inj this).symm⟩
      have HWs : Aside0 ((bs2 ++ acc).length + (⟨#[41]⟩ : ByteArray).data.toList.length ≤ 140737488355328) := ⟨by have := HL3.out; simp only [List.length_append]; show _ + 1 ≤ _; omega⟩
      clear HT hal
      go_wp2_with (go_at_call 57; go_must (refine (PN.write HPr.out ⟨#[41]⟩ HWs.out HBr.out.size).mono ?_; rintro e w5 ⟨⟨n5, rfl⟩, hp5, hb5, hk5⟩; have HP5 := Aside0.mk hp5; have HB5 := Aside0.mk hb5; have HK5 := Aside0.mk hk5; clear hp5 hb5 hk5))
      go_end0
      have hacc := HACC.out
      rw [HTN.out, List.append_nil] at hacc
      exact ⟨rfl, by rw [← List.append_assoc, HBS2.out, ← List.append_assoc, ← hacc]; exact HP5.out, HBr.out.trans HB5.out, HKr.out.trans HK5.out⟩
   ·
    have b1 : (x.f0 == 1) = false := by simp [k1]
    rw [if_neg k1] at hS ok
    by_cases k2 : x.f0 = 2
    ·
     rw [if_pos k2] at hS
     have b2 : (x.f0 == 2) = true := by simp [k2]
     obtain rfl := Option.some.inj hS
     rw [if_pos (Or.inl k2)] at ok
     simp only [Bool.and_eq_true, decide_eq_true_eq] at ok
     obtain ⟨o1, o2⟩ := ok
     have HW : Aside0 (bs1.length + (ofB toks (wrap64 (x.f1 - 1))).data.toList.length ≤ 140737488355328) := ⟨by have := HL2.out; omega⟩
     clear hS k1 k2
     go_wp2
     refine start_ (n := 12) (S := fun w' => w'.cell? ⟨g, 2, none⟩ = some (.slice A2 toks.length c2) ∧ w'.cell? ⟨w.heap.size, 1, none⟩ = some (.int .i64 x.f1)) (ds := [11]) #[false, false, false, false, false, false, false, false, false, false, false, false] (by kernel_rfl) rfl rfl ⟨hq2, hx1⟩ (fun hHeld => ?_)
     refine pure_ (i := 0) (N := some 70) (v := ?_) (a' := ?_) #[true, false, false, false, false, false, false, false, false, false, false, false] rfl rfl (by kernel_rfl) (fun _ _ _ h => h) (Or.inl ⟨by rfl, ?_⟩) ?_ ?_
     rotate_left
     ·
      intro w'
      go_simp
      with_reducible rfl
     rotate_left
     ·
      simp only [Act.put, List.setIfInBounds_toArray, List.set_cons_zero, List.set_cons_succ, i64_w, i32_w]
      rfl
     refine pure_ (i := 1) (N := some 71) (v := ?_) (a' := ?_) #[true, true, false, false, false, false, false, false, false, false, false, false] rfl rfl (by kernel_rfl) (fun _ _ _ h => h) (Or.inl ⟨by rfl, ?_⟩) ?_ ?_
     rotate_left
     ·
      intro w'
      go_simp
      with_reducible rfl
     rotate_left
     ·
      simp only [Act.put, List.setIfInBounds_toArray, List.set_cons_zero, List.set_cons_succ, i64_w, i32_w]
      rfl
     refine pure_ (i := 2) (N := some 72) (v := ?_) (a' := ?_) #[true, true, true, false, false, false, false, false, false, false, false, false] rfl rfl (by kernel_rfl) (fun _ _ _ h => h) (Or.inl ⟨by rfl, ?_⟩) ?_ ?_
     rotate_left
     ·
      intro w'
      go_simp
      with_reducible rfl
     rotate_left
     ·
      simp only [Act.put, List.setIfInBounds_toArray, List.set_cons_zero, List.set_cons_succ, i64_w, i32_w]
      rfl
     refine pure_ (i := 3) (N := some 73) (v := ?_) (a' := ?_) #[true, true, true, true, false, false, false, false, false, false, false, false] rfl rfl (by kernel_rfl) (fun _ _ _ h => h) (Or.inl ⟨by rfl, ?_⟩) ?_ ?_
     rotate_left
     ·
      intro w'
      go_simp
      with_reducible rfl
     rotate_left
     ·
      simp only [Act.put, List.setIfInBounds_toArray, List.set_cons_zero, List.set_cons_succ, i64_w, i32_w]
      rfl
     refine pure_ (i := 4) (N := some 74) (v := ?_) (a' := ?_) #[true, true, true, true, true, false, false, false, false, false, false, false] rfl rfl (by kernel_rfl) (fun _ _ _ h => h) (Or.inl ⟨by rfl, ?_⟩) ?_ ?_
     rotate_left
     ·
      intro w'
      go_simp
      with_reducible rfl
     rotate_left
     ·
      simp only [Act.put, List.setIfInBounds_toArray, List.set_cons_zero, List.set_cons_succ, i64_w, i32_w]
      rfl
     refine pure_ (i := 5) (N := some 75) (v := ?_) (a' := ?_) #[true, true, true, true, true, true, false, false, false, false, false, false] rfl rfl (by kernel_rfl) (fun _ _ _ h => h) (Or.inl ⟨by rfl, ?_⟩) ?_ ?_
     rotate_left
     ·
      intro w'
      go_simp
      with_reducible rfl
     rotate_left
     ·
      simp only [Act.put, List.setIfInBounds_toArray, List.set_cons_zero, List.set_cons_succ, i64_w, i32_w]
      rfl
     refine pure_ (i := 7) (N := some 77) (v := ?_) (a' := ?_) #[true, true, true, true, true, true, false, true, false, false, false, false] rfl rfl (by kernel_rfl) (fun _ _ _ h => h) (Or.inl ⟨by rfl, ?_⟩) ?_ ?_
     rotate_left
     ·
      intro w'
      go_simp
      with_reducible rfl
     rotate_left
     ·
      simp only [Act.put, List.setIfInBounds_toArray, List.set_cons_zero, List.set_cons_succ, i64_w, i32_w]
      rfl
     refine take_ (i := 6) (N := some 76) (v := ?_) (a' := ?_) #[true, true, true, true, true, true, true, true, false, false, false, false] rfl rfl (by kernel_rfl) (fun _ _ _ h => h) (Or.inl ⟨by rfl, ?_⟩) hHeld ?_ ?_
     rotate_left
     ·
      rintro w' ⟨s0, s1⟩
      go_simp
      with_reducible rfl
     rotate_left
     ·
      simp only [Act.put, List.setIfInBounds_toArray, List.set_cons_zero, List.set_cons_succ, i64_w, i32_w]
      rfl
     refine take_ (i := 8) (N := some 78) (v := ?_) (a' := ?_) #[true, true, true, true, true, true, true, true, true, false, false, false] rfl rfl (by kernel_rfl) (fun _ _ _ h => h) (Or.inl ⟨by rfl, ?_⟩) hHeld ?_ ?_
     rotate_left
     ·
      rintro w' ⟨s0, s1⟩
      go_simp
      with_reducible rfl
     rotate_left
     ·
      simp only [Act.put, List.setIfInBounds_toArray, List.set_cons_zero, List.set_cons_succ, i64_w, i32_w]
      rfl
     refine pure_ (i := 9) (N := some 79) (v := ?_) (a' := ?_) #[true, true, true, true, true, true, true, true, true, true, false, false] rfl rfl (by kernel_rfl) (fun _ _ _ h => h) (Or.inl ⟨by rfl, ?_⟩) ?_ ?_
     rotate_left
     ·
      intro w'
      go_simp
      with_reducible rfl
     rotate_left
     ·
      simp only [Act.put, List.setIfInBounds_toArray, List.set_cons_zero, List.set_cons_succ, i64_w, i32_w]
      rfl
     refine one_ (i := 10) (N := some 80) #[true, true, true, true, true, true, true, true, true, true, true, false] rfl rfl (by kernel_rfl) (by decide) (fun K hK => ?_)
     refine goes_ Tryd.func79 (by kernel_rfl) rfl #[.slice A2 toks.length c2, .int .i64 (wrap64 (x.f1 - 1))] (by rfl) rfl rfl (by simp only [List.map_toArray, List.map_cons, List.map_nil]; rfl) ?_
     with_reducible refine (tree_of.calls A2 c2 toks (wrap64 (x.f1 - 1)) (ofB toks (wrap64 (x.f1 - 1))) _ (Kd.C_below HR2.out (Below.drew HBc.out)) hc2 (of_f _ _)).mono ?_
     rintro e w3 ⟨rfl, hd3⟩
     refine ⟨_, rfl, ?_⟩
     have hb3 := Drawn0.below hd3
     clear hd3
     refine hK.out _ _ ⟨(pw_cell_below hb3 hq2), (pw_cell_below hb3 hx1)⟩ (fun hHeld => ?_)
     clear hK K
     refine norm_ (a' := ?_) ?_ ?_
     rotate_left
     ·
      show Act.put _ (some 80) _ = _
      simp only [Act.put, List.setIfInBounds_toArray, List.set_cons_zero, List.set_cons_succ, i64_w, i32_w]
      rfl
     refine last_ (i := 11) (N := some 81) #[true, true, true, true, true, true, true, true, true, true, true, true] rfl rfl (by kernel_rfl) (by decide) (fun K hK => ?_)
     refine goes_ Tryd.func57 (by kernel_rfl) rfl #[.pointer (some ⟨g, 3, none⟩), .string (ofB toks (wrap64 (x.f1 - 1)))] (by rfl) rfl rfl (by simp only [List.map_toArray, List.map_cons, List.map_nil]; rfl) ?_
     with_reducible refine (PN.write (PN.below (PN.drew HPc.out) hb3) (ofB toks (wrap64 (x.f1 - 1))) HW.out (below_step (Below.drew HBc.out) hb3).size).mono ?_
     rintro e w4 ⟨⟨n4, rfl⟩, hp4, hb4, hk4⟩
     refine ⟨_, rfl, ?_⟩
     refine hK.out _ _ ?_
     clear hK K
     refine norm_ (a' := ?_) ?_ ?_
     rotate_left
     ·
      show Act.put _ (some 81) _ = _
      simp only [Act.put, List.setIfInBounds_toArray, List.set_cons_zero, List.set_cons_succ, i64_w, i32_w]
      rfl
     refine done_ (by kernel_rfl) ?_
     go_wp2
     go_end0
     exact ⟨rfl, hp4, (below_step (Below.drew HBc.out) hb3).trans hb4, (ok_below (HKc.out.drew) hb3).trans hk4⟩
    ·
     have b2 : (x.f0 == 2) = false := by simp [k2]
     rw [if_neg k2] at hS
     by_cases k3 : x.f0 = 3
     ·
      rw [if_pos k3] at hS
      have b3 : (x.f0 == 3) = true := by simp [k3]
      obtain rfl := Option.some.inj hS
      rw [if_neg (by omega), if_pos k3] at ok
      simp only [Bool.and_eq_true, decide_eq_true_eq] at ok
      obtain ⟨⟨⟨o1, o2⟩, o3⟩, o4⟩ := ok
      have HW : Aside0 (bs1.length + ((((⟨#[60]⟩ : ByteArray) ++ itoaB x.f2) ++ ⟨#[46, 46]⟩ ++ itoaB x.f3) ++ ⟨#[62]⟩).data.toList.length ≤ 140737488355328) := ⟨by have := HL2.out; omega⟩
      have hz := HW.out
      rw [sz] at hz
      simp only [ByteArray.size_append, show (⟨#[60]⟩ : ByteArray).size = 1 from rfl, show (⟨#[46, 46]⟩ : ByteArray).size = 2 from rfl, show (⟨#[62]⟩ : ByteArray).size = 1 from rfl] at hz
      have hz1 : ¬ (9223372036854775807 < 1 + (itoaB x.f2).size) := by omega
      have hz2 : ¬ (9223372036854775807 < 1 + (itoaB x.f2).size + 2) := by omega
      have hz3 : ¬ (9223372036854775807 < 1 + (itoaB x.f2).size + 2 + (itoaB x.f3).size) := by omega
      have hz4 : ¬ (9223372036854775807 < 1 + (itoaB x.f2).size + 2 + (itoaB x.f3).size + 1) := by omega
      clear hS k1 k2 k3 hz
      go_wp2
      refine start_ (n := 14) (S := fun w' => w'.cell? ⟨w.heap.size, 2, none⟩ = some (.int .i64 x.f2) ∧ w'.cell? ⟨w.heap.size, 3, none⟩ = some (.int .i64 x.f3)) (ds := [13]) #[false, false, false, false, false, false, false, false, false, false, false, false, false, false] (by kernel_rfl) rfl rfl ⟨hx2, hx3⟩ (fun hHeld => ?_)
      refine pure_ (i := 0) (N := some 84) (v := ?_) (a' := ?_) #[true, false, false, false, false, false, false, false, false, false, false, false, false, false] rfl rfl (by kernel_rfl) (fun _ _ _ h => h) (Or.inl ⟨by rfl, ?_⟩) ?_ ?_
      rotate_left
      ·
       intro w'
       go_simp
       with_reducible rfl
      rotate_left
      ·
       simp only [Act.put, List.setIfInBounds_toArray, List.set_cons_zero, List.set_cons_succ, i64_w, i32_w]
       rfl
      refine pure_ (i := 1) (N := some 85) (v := ?_) (a' := ?_) #[true, true, false, false, false, false, false, false, false, false, false, false, false, false] rfl rfl (by kernel_rfl) (fun _ _ _ h => h) (Or.inl ⟨by rfl, ?_⟩) ?_ ?_
      rotate_left
      ·
       intro w'
       go_simp
       with_reducible rfl
      rotate_left
      ·
       simp only [Act.put, List.setIfInBounds_toArray, List.set_cons_zero, List.set_cons_succ, i64_w, i32_w]
       rfl
      refine pure_ (i := 2) (N := some 86) (v := ?_) (a' := ?_) #[true, true, true, false, false, false, false, false, false, false, false, false, false, false] rfl rfl (by kernel_rfl) (fun _ _ _ h => h) (Or.inl ⟨by rfl, ?_⟩) ?_ ?_
      rotate_left
      ·
       intro w'
       go_simp
       with_reducible rfl
      rotate_left
      ·
       simp only [Act.put, List.setIfInBounds_toArray, List.set_cons_zero, List.set_cons_succ, i64_w, i32_w]
       rfl
      refine pure_ (i := 3) (N := some 87) (v := ?_) (a' := ?_) #[true, true, true, true, false, false, false, false, false, false, false, false, false, false] rfl rfl (by kernel_rfl) (fun _ _ _ h => h) (Or.inl ⟨by rfl, ?_⟩) ?_ ?_
      rotate_left
      ·
       intro w'
       go_simp
       with_reducible rfl
      rotate_left
      ·
       simp only [Act.put, List.setIfInBounds_toArray, List.set_cons_zero, List.set_cons_succ, i64_w, i32_w]
       rfl
      refine pure_ (i := 8) (N := some 92) (v := ?_) (a' := ?_) #[true, true, true, true, false, false, false, false, true, false, false, false, false, false] rfl rfl (by kernel_rfl) (fun _ _ _ h => h) (Or.inl ⟨by rfl, ?_⟩) ?_ ?_
      rotate_left
      ·
       intro w'
       go_simp
       with_reducible rfl
      rotate_left
      ·
       simp only [Act.put, List.setIfInBounds_toArray, List.set_cons_zero, List.set_cons_succ, i64_w, i32_w]
       rfl
      refine take_ (i := 4) (N := some 88) (v := ?_) (a' := ?_) #[true, true, true, true, true, false, false, false, true, false, false, false, false, false] rfl rfl (by kernel_rfl) (fun _ _ _ h => h) (Or.inl ⟨by rfl, ?_⟩) hHeld ?_ ?_
      rotate_left
      ·
       rintro w' ⟨s0, s1⟩
       go_simp
       with_reducible rfl
      rotate_left
      ·
       simp only [Act.put, List.setIfInBounds_toArray, List.set_cons_zero, List.set_cons_succ, i64_w, i32_w]
       rfl
      refine take_ (i := 9) (N := some 93) (v := ?_) (a' := ?_) #[true, true, true, true, true, false, false, false, true, true, false, false, false, false] rfl rfl (by kernel_rfl) (fun _ _ _ h => h) (Or.inl ⟨by rfl, ?_⟩) hHeld ?_ ?_
      rotate_left
      ·
       rintro w' ⟨s0, s1⟩
       go_simp
       with_reducible rfl
      rotate_left
      ·
       simp only [Act.put, List.setIfInBounds_toArray, List.set_cons_zero, List.set_cons_succ, i64_w, i32_w]
       rfl
      refine one_ (i := 5) (N := some 89) #[true, true, true, true, true, true, false, false, true, true, false, false, false, false] rfl rfl (by kernel_rfl) (by decide) (fun K hK => ?_)
      refine goes_ Tryd.func80 (by kernel_rfl) rfl #[.int .i64 (x.f2)] (by rfl) rfl rfl (by simp only [List.map_toArray, List.map_cons, List.map_nil]; rfl) ?_
      with_reducible refine (itoa_call (x.f2) (by omega) (by omega) _ (GL_below HG.out (Below.drew HBc.out)).pow).mono ?_
      rintro e w3 ⟨rfl, hw3⟩
      refine ⟨_, rfl, ?_⟩
      refine hK.out _ _ ⟨(pw_cell_below hw3 hx2), (pw_cell_below hw3 hx3)⟩ (fun hHeld => ?_)
      clear hK K
      refine norm_ (a' := ?_) ?_ ?_
      rotate_left
      ·
       show Act.put _ (some 89) _ = _
       simp only [Act.put, List.setIfInBounds_toArray, List.set_cons_zero, List.set_cons_succ, i64_w, i32_w]
       rfl
      refine pure_ (i := 6) (N := some 90) (v := ?_) (a' := ?_) #[true, true, true, true, true, true, true, false, true, true, false, false, false, false] rfl rfl (by kernel_rfl) (fun _ _ _ h => h) (Or.inl ⟨by rfl, ?_⟩) ?_ ?_
      rotate_left
      ·
       intro w'
       go_simp
       with_reducible rfl
      rotate_left
      ·
       simp only [Act.put, List.setIfInBounds_toArray, List.set_cons_zero, List.set_cons_succ, i64_w, i32_w]
       rfl
      refine pure_ (i := 7) (N := some 91) (v := ?_) (a' := ?_) #[true, true, true, true, true, true, true, true, true, true, false, false, false, false] rfl rfl (by kernel_rfl) (fun _ _ _ h => h) (Or.inl ⟨by rfl, ?_⟩) ?_ ?_
      rotate_left
      ·
       intro w'
       go_simp
       with_reducible rfl
      rotate_left
      ·
       simp only [Act.put, List.setIfInBounds_toArray, List.set_cons_zero, List.set_cons_succ, i64_w, i32_w]
       rfl
      refine one_ (i := 10) (N := some 94) #[true, true, true, true, true, true, true, true, true, true, true, false, false, false] rfl rfl (by kernel_rfl) (by decide) (fun K hK => ?_)
      refine goes_ Tryd.func80 (by kernel_rfl) rfl #[.int .i64 (x.f3)] (by rfl) rfl rfl (by simp only [List.map_toArray, List.map_cons, List.map_nil]; rfl) ?_
      with_reducible refine (itoa_call (x.f3) (by omega) (by omega) _ (GL_below HG.out (below_step (Below.drew HBc.out) hw3)).pow).mono ?_
      rintro e w5 ⟨rfl, hw5⟩
      refine ⟨_, rfl, ?_⟩
      refine hK.out _ _ ⟨(pw_cell_below hw5 (pw_cell_below hw3 hx2)), (pw_cell_below hw5 (pw_cell_below hw3 hx3))⟩ (fun hHeld => ?_)
      clear hK K
      refine norm_ (a' := ?_) ?_ ?_
      rotate_left
      ·
       show Act.put _ (some 94) _ = _
       simp only [Act.put, List.setIfInBounds_toArray, List.set_cons_zero, List.set_cons_succ, i64_w, i32_w]
       rfl
      refine pure_ (i := 11) (N := some 95) (v := ?_) (a' := ?_) #[true, true, true, true, true, true, true, true, true, true, true, true, false, false] rfl rfl (by kernel_rfl) (fun _ _ _ h => h) (Or.inl ⟨by rfl, ?_⟩) ?_ ?_
      rotate_left
      ·
       intro w'
       go_simp
       with_reducible rfl
      rotate_left
      ·
       simp only [Act.put, List.setIfInBounds_toArray, List.set_cons_zero, List.set_cons_succ, i64_w, i32_w]
       rfl
      refine pure_ (i := 12) (N := some 96) (v := ?_) (a' := ?_) #[true, true, true, true, true, true, true, true, true, true, true, true, true, false] rfl rfl (by kernel_rfl) (fun _ _ _ h => h) (Or.inl ⟨by rfl, ?_⟩) ?_ ?_
      rotate_left
      ·
       intro w'
       go_simp
       with_reducible rfl
      rotate_left
      ·
       simp only [Act.put, List.setIfInBounds_toArray, List.set_cons_zero, List.set_cons_succ, i64_w, i32_w]
       rfl
      refine last_ (i := 13) (N := some 97) #[true, true, true, true, true, true, true, true, true, true, true, true, true, true] rfl rfl (by kernel_rfl) (by decide) (fun K hK => ?_)
      refine goes_ Tryd.func57 (by kernel_rfl) rfl #[.pointer (some ⟨g, 3, none⟩), .string ((((⟨#[60]⟩ : ByteArray) ++ itoaB x.f2) ++ ⟨#[46, 46]⟩ ++ itoaB x.f3) ++ ⟨#[62]⟩)] (by rfl) rfl rfl (by simp only [List.map_toArray, List.map_cons, List.map_nil]; rfl) ?_
      with_reducible refine (PN.write (PN.below (PN.below (PN.drew HPc.out) hw3) hw5) ((((⟨#[60]⟩ : ByteArray) ++ itoaB x.f2) ++ ⟨#[46, 46]⟩ ++ itoaB x.f3) ++ ⟨#[62]⟩) HW.out (below_step (below_step (Below.drew HBc.out) hw3) hw5).size).mono ?_
      rintro e w4 ⟨⟨n4, rfl⟩, hp4, hb4, hk4⟩
      refine ⟨_, rfl, ?_⟩
      refine hK.out _ _ ?_
      clear hK K
      refine norm_ (a' := ?_) ?_ ?_
      rotate_left
      ·
       show Act.put _ (some 97) _ = _
       simp only [Act.put, List.setIfInBounds_toArray, List.set_cons_zero, List.set_cons_succ, i64_w, i32_w]
       rfl
      refine done_ (by kernel_rfl) ?_
      go_wp2
      go_end0
      exact ⟨rfl, hp4, (below_step (below_step (Below.drew HBc.out) hw3) hw5).trans hb4, (ok_below (ok_below (HKc.out.drew) hw3) hw5).trans hk4⟩
     ·
      have b3 : (x.f0 == 3) = false := by simp [k3]
      rw [if_neg k3] at hS
      by_cases k4 : x.f0 = 4
      ·
       rw [if_pos k4] at hS
       have b4 : (x.f0 == 4) = true := by simp [k4]
       obtain rfl := Option.some.inj hS
       rw [if_pos (Or.inr k4)] at ok
       simp only [Bool.and_eq_true, decide_eq_true_eq] at ok
       obtain ⟨o1, o2⟩ := ok
       have HW : Aside0 (bs1.length + ((⟨#[33]⟩ : ByteArray) ++ ofB toks (wrap64 (x.f1 - 1))).data.toList.length ≤ 140737488355328) := ⟨by have := HL2.out; omega⟩
       have hz : ¬ (9223372036854775807 < 1 + (ofB toks (wrap64 (x.f1 - 1))).size) := by
        have z := HW.out
        rw [sz, ByteArray.size_append, show (⟨#[33]⟩ : ByteArray).size = 1 from rfl] at z
        omega
       clear hS k1 k2 k3 k4
       go_wp2
       refine start_ (n := 13) (S := fun w' => w'.cell? ⟨g, 2, none⟩ = some (.slice A2 toks.length c2) ∧ w'.cell? ⟨w.heap.size, 1, none⟩ = some (.int .i64 x.f1)) (ds := [12]) #[false, false, false, false, false, false, false, false, false, false, false, false, false] (by kernel_rfl) rfl rfl ⟨hq2, hx1⟩ (fun hHeld => ?_)
       refine pure_ (i := 0) (N := some 100) (v := ?_) (a' := ?_) #[true, false, false, false, false, false, false, false, false, false, false, false, false] rfl rfl (by kernel_rfl) (fun _ _ _ h => h) (Or.inl ⟨by rfl, ?_⟩) ?_ ?_
       rotate_left
       ·
        intro w'
        go_simp
        with_reducible rfl
       rotate_left
       ·
        simp only [Act.put, List.setIfInBounds_toArray, List.set_cons_zero, List.set_cons_succ, i64_w, i32_w]
        rfl
       refine pure_ (i := 1) (N := some 101) (v := ?_) (a' := ?_) #[true, true, false, false, false, false, false, false, false, false, false, false, false] rfl rfl (by kernel_rfl) (fun _ _ _ h => h) (Or.inl ⟨by rfl, ?_⟩) ?_ ?_
       rotate_left
       ·
        intro w'
        go_simp
        with_reducible rfl
       rotate_left
       ·
        simp only [Act.put, List.setIfInBounds_toArray, List.set_cons_zero, List.set_cons_succ, i64_w, i32_w]
        rfl
       refine pure_ (i := 2) (N := some 102) (v := ?_) (a' := ?_) #[true, true, true, false, false, false, false, false, false, false, false, false, false] rfl rfl (by kernel_rfl) (fun _ _ _ h => h) (Or.inl ⟨by rfl, ?_⟩) ?_ ?_
       rotate_left
       ·
        intro w'
        go_simp
        with_reducible rfl
       rotate_left
       ·
        simp only [Act.put, List.setIfInBounds_toArray, List.set_cons_zero, List.set_cons_succ, i64_w, i32_w]
        rfl
       refine pure_ (i := 3) (N := some 103) (v := ?_) (a' := ?_) #[true, true, true, true, false, false, false, false, false, false, false, false, false] rfl rfl (by kernel_rfl) (fun _ _ _ h => h) (Or.inl ⟨by rfl, ?_⟩) ?_ ?_
       rotate_left
       ·
        intro w'
        go_simp
        with_reducible rfl
       rotate_left
       ·
        simp only [Act.put, List.setIfInBounds_toArray, List.set_cons_zero, List.set_cons_succ, i64_w, i32_w]
        rfl
       refine pure_ (i := 4) (N := some 104) (v := ?_) (a' := ?_) #[true, true, true, true, true, false, false, false, false, false, false, false, false] rfl rfl (by kernel_rfl) (fun _ _ _ h => h) (Or.inl ⟨by rfl, ?_⟩) ?_ ?_
       rotate_left
       ·
        intro w'
        go_simp
        with_reducible rfl
       rotate_left
       ·
        simp only [Act.put, List.setIfInBounds_toArray, List.set_cons_zero, List.set_cons_succ, i64_w, i32_w]
        rfl
       refine pure_ (i := 5) (N := some 105) (v := ?_) (a' := ?_) #[true, true, true, true, true, true, false, false, false, false, false, false, false] rfl rfl (by kernel_rfl) (fun _ _ _ h => h) (Or.inl ⟨by rfl, ?_⟩) ?_ ?_
       rotate_left
       ·
        intro w'
        go_simp
        with_reducible rfl
       rotate_left
       ·
        simp only [Act.put, List.setIfInBounds_toArray, List.set_cons_zero, List.set_cons_succ, i64_w, i32_w]
        rfl
       refine pure_ (i := 7) (N := some 107) (v := ?_) (a' := ?_) #[true, true, true, true, true, true, false, true, false, false, false, false, false] rfl rfl (by kernel_rfl) (fun _ _ _ h => h) (Or.inl ⟨by rfl, ?_⟩) ?_ ?_
       rotate_left
       ·
        intro w'
        go_simp
        with_reducible rfl
       rotate_left
       ·
        simp only [Act.put, List.setIfInBounds_toArray, List.set_cons_zero, List.set_cons_succ, i64_w, i32_w]
        rfl
       refine take_ (i := 6) (N := some 106) (v := ?_) (a' := ?_) #[true, true, true, true, true, true, true, true, false, false, false, false, false] rfl rfl (by kernel_rfl) (fun _ _ _ h => h) (Or.inl ⟨by rfl, ?_⟩) hHeld ?_ ?_
       rotate_left
       ·
        rintro w' ⟨s0, s1⟩
        go_simp
        with_reducible rfl
       rotate_left
       ·
        simp only [Act.put, List.setIfInBounds_toArray, List.set_cons_zero, List.set_cons_succ, i64_w, i32_w]
        rfl
       refine take_ (i := 8) (N := some 108) (v := ?_) (a' := ?_) #[true, true, true, true, true, true, true, true, true, false, false, false, false] rfl rfl (by kernel_rfl) (fun _ _ _ h => h) (Or.inl ⟨by rfl, ?_⟩) hHeld ?_ ?_
       rotate_left
       ·
        rintro w' ⟨s0, s1⟩
        go_simp
        with_reducible rfl
       rotate_left
       ·
        simp only [Act.put, List.setIfInBounds_toArray, List.set_cons_zero, List.set_cons_succ, i64_w, i32_w]
        rfl
       refine pure_ (i := 9) (N := some 109) (v := ?_) (a' := ?_) #[true, true, true, true, true, true, true, true, true, true, false, false, false] rfl rfl (by kernel_rfl) (fun _ _ _ h => h) (Or.inl ⟨by rfl, ?_⟩) ?_ ?_
       rotate_left
       ·
        intro w'
        go_simp
        with_reducible rfl
       rotate_left
       ·
        simp only [Act.put, List.setIfInBounds_toArray, List.set_cons_zero, List.set_cons_succ, i64_w, i32_w]
        rfl
       refine one_ (i := 10) (N := some 110) #[true, true, true, true, true, true, true, true, true, true, true, false, false] rfl rfl (by kernel_rfl) (by decide) (fun K hK => ?_)
       refine goes_ Tryd.func79 (by kernel_rfl) rfl #[.slice A2 toks.length c2, .int .i64 (wrap64 (x.f1 - 1))] (by rfl) rfl rfl (by simp only [List.map_toArray, List.map_cons, List.map_nil]; rfl) ?_
       with_reducible refine (tree_of.calls A2 c2 toks (wrap64 (x.f1 - 1)) (ofB toks (wrap64 (x.f1 - 1))) _ (Kd.C_below HR2.out (Below.drew HBc.out)) hc2 (of_f _ _)).mono ?_
       rintro e w3 ⟨rfl, hd3⟩
       refine ⟨_, rfl, ?_⟩
       have hb3 := Drawn0.below hd3
       clear hd3
       refine hK.out _ _ ⟨(pw_cell_below hb3 hq2), (pw_cell_below hb3 hx1)⟩ (fun hHeld => ?_)
       clear hK K
       refine norm_ (a' := ?_) ?_ ?_
       rotate_left
       ·
        show Act.put _ (some 110) _ = _
        simp only [Act.put, List.setIfInBounds_toArray, List.set_cons_zero, List.set_cons_succ, i64_w, i32_w]
        rfl
       refine pure_ (i := 11) (N := some 111) (v := ?_) (a' := ?_) #[true, true, true, true, true, true, true, true, true, true, true, true, false] rfl rfl (by kernel_rfl) (fun _ _ _ h => h) (Or.inl ⟨by rfl, ?_⟩) ?_ ?_
       rotate_left
       ·
        intro w'
        go_simp
        with_reducible rfl
       rotate_left
       ·
        simp only [Act.put, List.setIfInBounds_toArray, List.set_cons_zero, List.set_cons_succ, i64_w, i32_w]
        rfl
       refine last_ (i := 12) (N := some 112) #[true, true, true, true, true, true, true, true, true, true, true, true, true] rfl rfl (by kernel_rfl) (by decide) (fun K hK => ?_)
       refine goes_ Tryd.func57 (by kernel_rfl) rfl #[.pointer (some ⟨g, 3, none⟩), .string ((⟨#[33]⟩ : ByteArray) ++ ofB toks (wrap64 (x.f1 - 1)))] (by rfl) rfl rfl (by simp only [List.map_toArray, List.map_cons, List.map_nil]; rfl) ?_
       with_reducible refine (PN.write (PN.below (PN.drew HPc.out) hb3) ((⟨#[33]⟩ : ByteArray) ++ ofB toks (wrap64 (x.f1 - 1))) HW.out (below_step (Below.drew HBc.out) hb3).size).mono ?_
       rintro e w4 ⟨⟨n4, rfl⟩, hp4, hb4, hk4⟩
       refine ⟨_, rfl, ?_⟩
       refine hK.out _ _ ?_
       clear hK K
       refine norm_ (a' := ?_) ?_ ?_
       rotate_left
       ·
        show Act.put _ (some 112) _ = _
        simp only [Act.put, List.setIfInBounds_toArray, List.set_cons_zero, List.set_cons_succ, i64_w, i32_w]
        rfl
       refine done_ (by kernel_rfl) ?_
       go_wp2
       go_end0
       exact ⟨rfl, hp4, (below_step (Below.drew HBc.out) hb3).trans hb4, (ok_below (HKc.out.drew) hb3).trans hk4⟩
      ·
       have b4 : (x.f0 == 4) = false := by simp [k4]
       rw [if_neg k4] at hS
       obtain rfl := Option.some.inj hS
       rw [if_neg (by omega), if_neg k3] at ok
       simp only [Bool.and_eq_true, decide_eq_true_eq] at ok
       obtain ⟨o1, o2⟩ := ok
       have HW : Aside0 (bs1.length + ((⟨#[63]⟩ : ByteArray) ++ itoaB x.f1).data.toList.length ≤ 140737488355328) := ⟨by have := HL2.out; omega⟩
       have hz : ¬ (9223372036854775807 < 1 + (itoaB x.f1).size) := by
        have z := HW.out
        rw [sz, ByteArray.size_append, show (⟨#[63]⟩ : ByteArray).size = 1 from rfl] at z
        omega
       clear hS k1 k2 k3 k4
       go_wp2
       refine start_ (n := 8) (S := fun w' => w'.cell? ⟨w.heap.size, 1, none⟩ = some (.int .i64 x.f1)) (ds := [7]) #[false, false, false, false, false, false, false, false] (by kernel_rfl) rfl rfl (hx1) (fun hHeld => ?_)
       refine pure_ (i := 0) (N := some 27) (v := ?_) (a' := ?_) #[true, false, false, false, false, false, false, false] rfl rfl (by kernel_rfl) (fun _ _ _ h => h) (Or.inl ⟨by rfl, ?_⟩) ?_ ?_
       rotate_left
       ·
        intro w'
        go_simp
        with_reducible rfl
       rotate_left
       ·
        simp only [Act.put, List.setIfInBounds_toArray, List.set_cons_zero, List.set_cons_succ, i64_w, i32_w]
        rfl
       refine pure_ (i := 1) (N := some 28) (v := ?_) (a' := ?_) #[true, true, false, false, false, false, false, false] rfl rfl (by kernel_rfl) (fun _ _ _ h => h) (Or.inl ⟨by rfl, ?_⟩) ?_ ?_
       rotate_left
       ·
        intro w'
        go_simp
        with_reducible rfl
       rotate_left
       ·
        simp only [Act.put, List.setIfInBounds_toArray, List.set_cons_zero, List.set_cons_succ, i64_w, i32_w]
        rfl
       refine pure_ (i := 2) (N := some 29) (v := ?_) (a' := ?_) #[true, true, true, false, false, false, false, false] rfl rfl (by kernel_rfl) (fun _ _ _ h => h) (Or.inl ⟨by rfl, ?_⟩) ?_ ?_
       rotate_left
       ·
        intro w'
        go_simp
        with_reducible rfl
       rotate_left
       ·
        simp only [Act.put, List.setIfInBounds_toArray, List.set_cons_zero, List.set_cons_succ, i64_w, i32_w]
        rfl
       refine pure_ (i := 3) (N := some 30) (v := ?_) (a' := ?_) #[true, true, true, true, false, false, false, false] rfl rfl (by kernel_rfl) (fun _ _ _ h => h) (Or.inl ⟨by rfl, ?_⟩) ?_ ?_
       rotate_left
       ·
        intro w'
        go_simp
        with_reducible rfl
       rotate_left
       ·
        simp only [Act.put, List.setIfInBounds_toArray, List.set_cons_zero, List.set_cons_succ, i64_w, i32_w]
        rfl
       refine take_ (i := 4) (N := some 31) (v := ?_) (a' := ?_) #[true, true, true, true, true, false, false, false] rfl rfl (by kernel_rfl) (fun _ _ _ h => h) (Or.inl ⟨by rfl, ?_⟩) hHeld ?_ ?_
       rotate_left
       ·
        intro w' s0
        go_simp
        with_reducible rfl
       rotate_left
       ·
        simp only [Act.put, List.setIfInBounds_toArray, List.set_cons_zero, List.set_cons_succ, i64_w, i32_w]
        rfl
       refine one_ (i := 5) (N := some 32) #[true, true, true, true, true, true, false, false] rfl rfl (by kernel_rfl) (by decide) (fun K hK => ?_)
       refine goes_ Tryd.func80 (by kernel_rfl) rfl #[.int .i64 (x.f1)] (by rfl) rfl rfl (by simp only [List.map_toArray, List.map_cons, List.map_nil]; rfl) ?_
       with_reducible refine (itoa_call (x.f1) (by omega) (by omega) _ (GL_below HG.out (Below.drew HBc.out)).pow).mono ?_
       rintro e w3 ⟨rfl, hw3⟩
       refine ⟨_, rfl, ?_⟩
       refine hK.out _ _ ((pw_cell_below hw3 hx1)) (fun hHeld => ?_)
       clear hK K
       refine norm_ (a' := ?_) ?_ ?_
       rotate_left
       ·
        show Act.put _ (some 32) _ = _
        simp only [Act.put, List.setIfInBounds_toArray, List.set_cons_zero, List.set_cons_succ, i64_w, i32_w]
        rfl
       refine pure_ (i := 6) (N := some 33) (v := ?_) (a' := ?_) #[true, true, true, true, true, true, true, false] rfl rfl (by kernel_rfl) (fun _ _ _ h => h) (Or.inl ⟨by rfl, ?_⟩) ?_ ?_
       rotate_left
       ·
        intro w'
        go_simp
        with_reducible rfl
       rotate_left
       ·
        simp only [Act.put, List.setIfInBounds_toArray, List.set_cons_zero, List.set_cons_succ, i64_w, i32_w]
        rfl
       refine last_ (i := 7) (N := some 34) #[true, true, true, true, true, true, true, true] rfl rfl (by kernel_rfl) (by decide) (fun K hK => ?_)
       refine goes_ Tryd.func57 (by kernel_rfl) rfl #[.pointer (some ⟨g, 3, none⟩), .string ((⟨#[63]⟩ : ByteArray) ++ itoaB x.f1)] (by rfl) rfl rfl (by simp only [List.map_toArray, List.map_cons, List.map_nil]; rfl) ?_
       with_reducible refine (PN.write (PN.below (PN.drew HPc.out) hw3) ((⟨#[63]⟩ : ByteArray) ++ itoaB x.f1) HW.out (below_step (Below.drew HBc.out) hw3).size).mono ?_
       rintro e w4 ⟨⟨n4, rfl⟩, hp4, hb4, hk4⟩
       refine ⟨_, rfl, ?_⟩
       refine hK.out _ _ ?_
       clear hK K
       refine norm_ (a' := ?_) ?_ ?_
       rotate_left
       ·
        show Act.put _ (some 34) _ = _
        simp only [Act.put, List.setIfInBounds_toArray, List.set_cons_zero, List.set_cons_succ, i64_w, i32_w]
        rfl
       refine done_ (by kernel_rfl) ?_
       go_wp2
       go_end0
       exact ⟨rfl, hp4, (below_step (Below.drew HBc.out) hw3).trans hb4, (ok_below (HKc.out.drew) hw3).trans hk4⟩
def tree_Text.f (l0_0 : List S33) (l1 l2 : List ByteArray) : Option ByteArray := if mayB l0_0 = true then (nodeT (l0_0.length + 1) l0_0 l1 l2 0).bind fun out => if out.length ≤ 70368744177664 ∧ out ≠ [] then some ⟨out.toArray⟩ else none else some ⟨#[]⟩
set_option maxHeartbeats 4000000 in
set_option maxRecDepth 100000 in
theorem tree_Text.calls (A0_0 : Option Addr) (c0_0 : Nat) (l0_0 : List S33) (A1 : Option Addr) (c1 : Nat) (l1 : List ByteArray) (A2 : Option Addr) (c2 : Nat) (l2 : List ByteArray) (r : ByteArray) (w : World) (hr0_0 : Kd.C k33 w A0_0 l0_0.length l0_0) (hc0_0 : l0_0.length ≤ c0_0) (hr1 : Kd.C Kd.string w A1 l1.length l1) (hc1 : l1.length ≤ c1) (hr2 : Kd.C Kd.string w A2 l2.length l2) (hc2 : l2.length ≤ c2) (hG : GL w) (h : tree_Text.f l0_0 l1 l2 = some r) :
  Calls Tryd.prog 22 #[.agg #[.slice A0_0 l0_0.length c0_0], .slice A1 l1.length c1, .slice A2 l2.length c2] w fun e w' => e = .returned (.string r) ∧ Below w.heap.size w w' := by
 have hu24 := Tryd.underlying24
 have hu94 := Tryd.underlying94
 have hu92 := Tryd.underlying92
 have HR := Aside0.mk hr0_0
 have HR1 := Aside0.mk hr1
 have HR2 := Aside0.mk hr2
 have HG := Aside0.mk hG
 have HB0 : Aside0 (Below w.heap.size w (w.alloc (.cells #[.slice A0_0 l0_0.length c0_0] 24))) := ⟨(Below.refl _ w).alloc (Nat.le_refl _) _⟩
 have HC := Aside0.mk (heap_alloc_new w (.cells #[.slice A0_0 l0_0.length c0_0] 24))
 clear hr0_0 hr1 hr2 hG
 unfold tree_Text.f at h
 cases hm : mayB l0_0 with
 | false =>
  rw [if_neg (by simp [hm])] at h
  obtain rfl := Option.some.inj h
  have HM : Aside0 (tree_May.f l0_0 = some 4) := ⟨by simp [tree_May.f, hm]⟩
  clear h hm
  go_enter Tryd.func22, Tryd.ntmps22
  go_wp2_with (go_at_call 11; go_must (refine (tree_May.calls A0_0 c0_0 l0_0 4 _ (Kd.C_below HR.out HB0.out) hc0_0 (GL_below HG.out HB0.out) HM.out).mono ?_; rintro e w1 ⟨rfl, hb1⟩; have HB1 := Aside0.mk hb1; clear hb1))
  go_ret
  exact ⟨rfl, below_step HB0.out HB1.out⟩
 | true =>
  rw [if_pos hm] at h
  obtain ⟨out, ho, h2⟩ := Option.bind_eq_some_iff.1 h
  split at h2
  case isFalse => cases h2
  rename_i hl
  obtain rfl := Option.some.inj h2
  have HO := Aside0.mk ho
  have HL := Aside0.mk hl
  have HM : Aside0 (tree_May.f l0_0 = some 0) := ⟨by simp [tree_May.f, hm]⟩
  clear h hm ho h2 hl
  go_enter Tryd.func22, Tryd.ntmps22
  go_wp2_with (first
   | (go_at_call 11; go_must (refine (tree_May.calls A0_0 c0_0 l0_0 0 _ (Kd.C_below HR.out HB0.out) hc0_0 (GL_below HG.out HB0.out) HM.out).mono ?_; rintro e w1 ⟨rfl, hb1⟩; have HB1 := Aside0.mk hb1; have hcc := blk_cell (g := w.heap.size) ((hb1.block w.heap.size (by simp)).trans HC.out) 0; simp only [List.getElem?_toArray, List.getElem?_cons_zero] at hcc; clear hb1))
   | (go_at_call 49; go_must (refine (node_text l0_0 l1 l2 A0_0 A1 A2 c0_0 c1 c2 w HR.out hc0_0 HR1.out hc1 HR2.out hc2 HG.out (l0_0.length + 1) 0 out [] _ w1.heap.size HO.out (by have := HL.out.1; simpa using this) ((below_step HB0.out HB1.out).alloc (below_step HB0.out HB1.out).size _) ⟨.pointer none, .inl rfl, (below_step HB0.out HB1.out).size, .slice none 0 0, heap_alloc_new w1 _, World.ownsRow_nil _ _ _ _, by simp [Value.ownBlock]⟩).mono ?_; rintro e w2 ⟨rfl, hp2, hb2, hk2⟩; have HP2 := Aside0.mk hp2; have HB2 := Aside0.mk hb2; clear hp2 hb2 hk2))
   | (go_at_call 50; go_must (obtain ⟨p3, _, hat⟩ := HP2.out; refine (string_any w.heap.size w1.heap.size _ _ _ p3 out _ hat HL.out.2).mono ?_; rintro e w3 ⟨rfl, hb3⟩; have HB3 := Aside0.mk hb3; clear hb3)))
  go_ret
  exact ⟨rfl, HB2.out.trans HB3.out⟩
end Go.Proofs.YtafbmlhgcmlmpaaDoor.PT
