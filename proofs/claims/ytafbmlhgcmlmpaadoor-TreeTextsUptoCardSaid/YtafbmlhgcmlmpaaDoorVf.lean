/- Chapter 22, plainly: the numerals of the reference are those of the library. -/
import Derived.Test.YtafbmlhgcmlmpaaDoorVa
import Derived.Test.YtafbmlhgcmlmpaaDoorPTx9
import Derived.Test.YtafbmlhgcmlmpaaDoorTText
namespace Go.Proofs.YtafbmlhgcmlmpaaDoor.PT
open Go.RowKit Go.Proofs.YtafbmlhgcmlmpaaDoorW.PrintWords Go.Proofs.YtafbmlhgcmlmpaaDoorW.PrintLast Go.Proofs.YtafbmlhgcmlmpaaDoorW.PrintMore
set_option linter.unusedVariables false
set_option linter.unusedSimpArgs false
theorem ba_ext {a b : ByteArray} (h : a.data.toList = b.data.toList) : a = b := by
  obtain ⟨⟨x⟩⟩ := a
  obtain ⟨⟨y⟩⟩ := b
  obtain rfl : x = y := h
  rfl
theorem app_list (a b : ByteArray) : (a ++ b).data.toList = a.data.toList ++ b.data.toList := by
  rw [ByteArray.data_append, Array.toList_append]
theorem app_size (a b : ByteArray) : (a ++ b).size = a.size + b.size := by
  rw [← sz, ← sz, ← sz, app_list, List.length_append]
theorem mk_size (l : List UInt8) : (⟨l.toArray⟩ : ByteArray).size = l.length := by
  rw [← sz]
def digs (u : Nat) : List UInt8 := if u = 0 then [] else Lib.decDigits u
theorem digs_step {u : Nat} (h : u ≠ 0) : digs u = digs (u / 10) ++ [UInt8.ofNat (48 + u % 10)] := by
  unfold digs
  rw [if_neg h, Lib.decDigits]
  by_cases h9 : u < 10
  · rw [dif_pos h9, if_pos (by omega), Nat.mod_eq_of_lt h9]
    rfl
  · rw [dif_neg h9, if_neg (by omega)]
theorem digs_len : ∀ (m u : Nat), u < 10 ^ m → (digs u).length ≤ m
  | 0, u, h => by
    have : u = 0 := by simpa using h
    rw [this]
    simp [digs]
  | m + 1, u, h => by
    by_cases h0 : u = 0
    · rw [h0]
      simp [digs]
    · rw [digs_step h0, List.length_append]
      rw [Nat.pow_succ] at h
      have := digs_len m (u / 10) (by omega)
      simp only [List.length_cons, List.length_nil]
      omega
theorem itoa_loop (x0 : Int) (h0 : 0 ≤ x0) : ∀ (u : Nat) (acc : ByteArray), u ≤ 9223372036854775807 → acc.size + (digs u).length ≤ 1000 → Ev (fun k => gramaryebase_Itoa.l0 k x0 acc (u : Int)) ⟨(digs u ++ acc.data.toList).toArray⟩ := by
  intro u
  induction u using Nat.strongRecOn with
  | _ u ih =>
    intro acc hu ha
    by_cases hz : u = 0
    · subst hz
      refine ev_here (fun k => ?_)
      simp only [gramaryebase_Itoa.l0]
      rw [if_pos (by rfl), if_neg (by omega)]
      congr 1
    · rw [digs_step hz] at ha ⊢
      rw [List.length_append, List.length_cons, List.length_nil] at ha
      have hm : Int.tmod (u : Int) 10 = ((u % 10 : Nat) : Int) := by rw [Int.tmod_eq_emod_of_nonneg (by omega)]; omega
      have hd : Int.tdiv (u : Int) 10 = ((u / 10 : Nat) : Int) := by rw [Int.tdiv_eq_ediv_of_nonneg (by omega)]; omega
      have hw : wrap64 (Int.tdiv (u : Int) 10) = ((u / 10 : Nat) : Int) := by rw [hd]; unfold wrap64; omega
      have hc : (wrap64 (48 + Int.tmod (u : Int) 10)) % 256 = ((48 + u % 10 : Nat) : Int) := by rw [hm]; unfold wrap64; omega
      have hs : strOfNums [((48 + u % 10 : Nat) : Int)] = ⟨#[UInt8.ofNat (48 + u % 10)]⟩ := by
        unfold strOfNums
        rw [List.map_cons, List.map_nil, Int.toNat_natCast]
      have e : (⟨(digs (u / 10) ++ [UInt8.ofNat (48 + u % 10)] ++ acc.data.toList).toArray⟩ : ByteArray) = ⟨(digs (u / 10) ++ ((⟨#[UInt8.ofNat (48 + u % 10)]⟩ : ByteArray) ++ acc).data.toList).toArray⟩ := by
        rw [app_list, List.append_assoc]
      rw [e]
      have hsz : ((⟨#[UInt8.ofNat (48 + u % 10)]⟩ : ByteArray)).size = 1 := rfl
      refine ev_succ (ih (u / 10) (by omega) ((⟨#[UInt8.ofNat (48 + u % 10)]⟩ : ByteArray) ++ acc) (by omega) (by rw [app_size, hsz]; omega)) (fun k hk => ?_)
      simp only [gramaryebase_Itoa.l0]
      rw [if_neg (by omega), if_neg (by rw [hm]; omega), hc, hw, Option.bind_some, hs, hsz, if_pos (by omega)]
      exact hk
theorem itoa_ev (n : Int) (h0 : 0 ≤ n) (h1 : n ≤ 9223372036854775807) : Ev (fun k => gramaryebase_Itoa.f k n) (itoaB n) := by
  obtain ⟨u, rfl⟩ : ∃ u : Nat, n = u := ⟨n.toNat, by omega⟩
  unfold itoaB Lib.itoa
  rw [if_neg (by omega), Int.toNat_natCast]
  by_cases hz : u = 0
  · subst hz
    refine Ev.congr (fun k => if_pos (by rfl)) ?_
    exact ev_eq (Ev.now _) (by decide +kernel)
  · refine Ev.congr (fun k => if_neg (by omega)) ?_
    have hl := digs_len 19 u (Nat.lt_of_le_of_lt (by omega : u ≤ 9223372036854775807) (by decide))
    have e0 : ((⟨#[]⟩ : ByteArray)).size = 0 := rfl
    refine ev_eq (itoa_loop (u : Int) h0 u ⟨#[]⟩ (by omega) (by rw [e0]; omega)) ?_
    congr 1
    congr 1
    unfold digs
    rw [if_neg hz]
    simp
theorem itoa_size (n : Int) (h0 : 0 ≤ n) (h1 : n ≤ 9223372036854775807) : (itoaB n).size ≤ 20 := by
  obtain ⟨u, rfl⟩ : ∃ u : Nat, n = u := ⟨n.toNat, by omega⟩
  unfold itoaB Lib.itoa
  rw [if_neg (by omega), Int.toNat_natCast, mk_size]
  by_cases hz : u = 0
  · subst hz
    decide +kernel
  · have hl := digs_len 19 u (Nat.lt_of_le_of_lt (by omega : u ≤ 9223372036854775807) (by decide))
    unfold digs at hl
    rw [if_neg hz] at hl
    omega
theorem refof_f (l : List ByteArray) (i : Int) : gramaryeref22_of.f l i = some (ofB l i) := by
  unfold ofB tree_of.f gramaryeref22_of.f
  repeat' split
  all_goals first | rfl | (exfalso; omega)
end Go.Proofs.YtafbmlhgcmlmpaaDoor.PT
