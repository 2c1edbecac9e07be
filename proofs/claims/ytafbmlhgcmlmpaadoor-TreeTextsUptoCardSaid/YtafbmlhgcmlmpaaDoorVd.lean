/- Chapter 22, plainly: the loops of TreeMays. -/
import Derived.Test.YtafbmlhgcmlmpaaDoorVc
import Derived.Test.YtafbmlhgcmlmpaaDoorPTx6
import Derived.Test.YtafbmlhgcmlmpaaDoorPTx0
namespace Go.Proofs.YtafbmlhgcmlmpaaDoor.PT
open Go.RowKit Go.Proofs.YtafbmlhgcmlmpaaDoorW.PrintWords Go.Proofs.YtafbmlhgcmlmpaaDoorW.PrintLast Go.Proofs.YtafbmlhgcmlmpaaDoorW.PrintMore
set_option linter.unusedVariables false
set_option linter.unusedSimpArgs false
theorem rd_at {l : List S33} {j : Nat} (h : j < l.length) : rd_T33 l (j : Int) = l[j] := by simp [rd_T33, h]
def cutS (x : S33) : S33 := ⟨x.f0, x.f1, x.f2, x.f3, x.f4, x.f5.take 300⟩
def fewL (l : List S33) : List S33 := (l.take 300).map cutS
theorem cut_mn (x : S33) : x.f5.take (mn (x.f5.length : Int) 300 : Int).toNat = x.f5.take 300 := by
  unfold mn
  split
  · rfl
  · rw [List.take_of_length_le (by omega), List.take_of_length_le (by omega)]
theorem few_loop (l : List S33) : ∀ (m j : Nat) (acc : List S33), j + m = min l.length 300 → acc.length = j → Ev (fun k => gramaryelaw22_Few.l0 k (j : Int) l acc) (acc ++ ((l.drop j).take m).map cutS)
  | 0, j, acc, h, ha => ev_here (fun k => by
      simp only [gramaryelaw22_Few.l0, List.take_zero, List.map_nil, List.append_nil]
      by_cases hj : (j : Int) < (l.length : Int)
      · rw [if_pos hj, if_neg (by omega)]
      · rw [if_neg hj])
  | m + 1, j, acc, h, ha => by
    have hj : j < l.length := by omega
    have ih := few_loop l m (j + 1) (acc ++ [cutS l[j]]) (by omega) (by simp [ha])
    have e : acc ++ ((l.drop j).take (m + 1)).map cutS = acc ++ [cutS l[j]] ++ ((l.drop (j + 1)).take m).map cutS := by
      rw [List.drop_eq_getElem_cons hj, List.take_succ_cons, List.map_cons, List.append_assoc]
      rfl
    rw [e]
    refine ev_succ ih (fun k hk => ?_)
    simp only [gramaryelaw22_Few.l0]
    rw [rd_at hj]
    have h0 : (0 : Int) ≤ mn (l[j].f5.length : Int) 300 := by unfold mn; split <;> omega
    have h1 : mn (l[j].f5.length : Int) 300 ≤ (l[j].f5.length : Int) := by unfold mn; split <;> omega
    have hi : gramaryebase_Ints.f (l[j].f5.take 300) = some (l[j].f5.take 300) := by
      unfold gramaryebase_Ints.f
      have : (l[j].f5.take 300).length ≤ 300 := by rw [List.length_take]; omega
      simp only [Option.bind_some, List.length_nil, Nat.zero_add, List.nil_append]
      rw [if_pos (by omega)]
    rw [if_pos (by omega), if_pos (by omega), if_pos (by omega), if_pos h0, if_pos h1, cut_mn, hi, Option.bind_some, if_pos (by omega), wrapS j (by omega)]
    exact hk
theorem few_ev (l : List S33) : Ev (fun k => gramaryelaw22_Few.f k l) (fewL l) := by
  have h := few_loop l (min l.length 300) 0 [] (by omega) rfl
  refine ev_eq h ?_
  rw [List.drop_zero, List.nil_append]
  unfold fewL
  congr 1
  by_cases hl : l.length ≤ 300
  · rw [List.take_of_length_le (by omega), List.take_of_length_le hl]
  · rw [show min l.length 300 = 300 from by omega]
theorem few_few (l : List S33) : fewL (fewL l) = fewL l := by
  unfold fewL
  rw [← List.map_take, List.take_take, List.map_map]
  have : cutS ∘ cutS = cutS := by
    funext x
    simp [cutS, List.take_take]
  rw [this]
  rfl
theorem few_le (l : List S33) : (fewL l).length ≤ 300 := by simp [fewL]; omega
theorem few_kids (l : List S33) : ∀ x ∈ fewL l, x.f5.length ≤ 300 := by
  intro x hx
  obtain ⟨y, _, rfl⟩ := List.mem_map.1 hx
  simp [cutS]
  omega
theorem few_in (l : List S33) (h : ∀ x ∈ l, In64 x) : ∀ x ∈ fewL l, In64 x := by
  intro x hx
  obtain ⟨y, hy, rfl⟩ := List.mem_map.1 hx
  exact h y (List.mem_of_mem_take hy)
end Go.Proofs.YtafbmlhgcmlmpaaDoor.PT
