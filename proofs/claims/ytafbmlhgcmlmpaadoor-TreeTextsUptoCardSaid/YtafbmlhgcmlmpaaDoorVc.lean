/- Chapter 22, plainly: what is so of every node of a tree that may be; its places. -/
import Derived.Test.YtafbmlhgcmlmpaaDoorVb
namespace Go.Proofs.YtafbmlhgcmlmpaaDoor.PT
open Go.RowKit Go.Proofs.YtafbmlhgcmlmpaaDoorW.PrintWords Go.Proofs.YtafbmlhgcmlmpaaDoorW.PrintLast Go.Proofs.YtafbmlhgcmlmpaaDoorW.PrintMore
set_option linter.unusedVariables false
set_option linter.unusedSimpArgs false
theorem right_in (x : S33) (h : rightB x = true) : 1 ≤ x.f0 ∧ x.f0 ≤ 5 ∧ 0 ≤ x.f2 ∧ x.f2 ≤ x.f3 := by
  by_cases hc : 1 ≤ x.f0 ∧ x.f0 ≤ 5 ∧ 0 ≤ x.f2 ∧ x.f2 ≤ x.f3
  · exact hc
  · rw [right_out x hc] at h
    cases h
theorem right_j0 (x : S33) (h : rightB x = true) : ∃ b, (x.f0 ≠ 1 → b = decide ((x.f5.length : Int) > 0)) ∧ tree_right.j0 1 b x.f0 x.f1 x.f2 x.f3 x.f4 x.f5 = some true := by
  have hi := right_in x h
  have hR := right_f x
  rw [h] at hR
  unfold tree_right.f at hR
  rw [if_neg (by omega), if_neg (by omega)] at hR
  by_cases hl : x.f4.toList = []
  · rw [if_pos hl] at hR
    by_cases h0 : x.f0 = 1
    · rw [if_pos h0] at hR
      exact ⟨_, fun z => absurd h0 z, hR⟩
    · rw [if_neg h0] at hR
      exact ⟨_, fun _ => rfl, hR⟩
  · rw [if_neg hl] at hR
    unfold name_Name.f at hR
    rw [Option.bind_some] at hR
    by_cases hn : nameB x.f4 = true
    · rw [if_pos hn] at hR
      by_cases h0 : x.f0 = 1
      · rw [if_pos h0] at hR
        exact ⟨_, fun z => absurd h0 z, hR⟩
      · rw [if_neg h0] at hR
        exact ⟨_, fun _ => rfl, hR⟩
    · rw [if_neg hn] at hR
      simp only [tree_right.j0] at hR
      rw [if_pos trivial] at hR
      cases hR
def Whole (l : List S33) (a b : Int) : Prop := ∀ j, a ≤ j → j < b → rightB (rd_T33 l j) = true
end Go.Proofs.YtafbmlhgcmlmpaaDoor.PT
