/- Chapter 22, plainly: names, right, below, may. -/
import Derived.Test.YtafbmlhgcmlmpaaDoorPTx0
import Derived.Test.YtafbmlhgcmlmpaaDoorPTx2
import Derived.Test.YtafbmlhgcmlmpaaDoorTIter
namespace Go.Proofs.YtafbmlhgcmlmpaaDoor.PT
open Go.RowKit Go.Proofs.YtafbmlhgcmlmpaaDoorW.PrintWords Go.Proofs.YtafbmlhgcmlmpaaDoorW.PrintLast Go.Proofs.YtafbmlhgcmlmpaaDoorW.PrintMore
set_option linter.unusedVariables false
set_option linter.unusedSimpArgs false
theorem wrapS (j : Nat) (h : j < 4611686018427387904) : wrap64 ((j : Int) + 1) = ((j + 1 : Nat) : Int) := by unfold wrap64; omega
theorem ev_eq {α : Type} {g : Nat → Option α} {r s : α} (h : Ev g r) (e : r = s) : Ev g s := e ▸ h
theorem ev_succ {α : Type} {g f : Nat → Option α} {r : α} (h : Ev f r) (e : ∀ k, f k = some r → g (k + 1) = some r) : Ev g r := by
  obtain ⟨K, hK⟩ := h
  refine ⟨K + 1, fun k hk => ?_⟩
  obtain ⟨m, rfl⟩ : ∃ m, k = m + 1 := ⟨k - 1, by omega⟩
  exact e m (hK m (by omega))
theorem ev_here {α : Type} {g : Nat → Option α} {r : α} (e : ∀ k, g (k + 1) = some r) : Ev g r := ev_succ (f := fun _ => some r) (Ev.now r) (fun k _ => e k)
def In64 (x : S33) : Prop := (-9223372036854775808 ≤ x.f2 ∧ x.f2 ≤ 9223372036854775807) ∧ (-9223372036854775808 ≤ x.f3 ∧ x.f3 ≤ 9223372036854775807)
theorem right_out (x : S33) (h : ¬ (1 ≤ x.f0 ∧ x.f0 ≤ 5 ∧ 0 ≤ x.f2 ∧ x.f2 ≤ x.f3)) : rightB x = false := by
  unfold rightB tree_right.f
  by_cases h2 : x.f2 < 0
  · rw [if_pos h2]
    rfl
  · rw [if_neg h2]
    by_cases h3 : x.f2 > x.f3
    · rw [if_pos h3]
      rfl
    · rw [if_neg h3]
      have J : ∀ b, tree_right.j0 1 b x.f0 x.f1 x.f2 x.f3 x.f4 x.f5 = some false := by
        intro b
        simp only [tree_right.j0]
        rw [if_neg (show ¬ x.f0 = 1 by omega), if_neg (show ¬ x.f0 = 2 by omega), if_neg (show ¬ x.f0 = 3 by omega), if_neg (show ¬ x.f0 = 4 by omega), if_neg (show ¬ x.f0 = 5 by omega), ite_self]
      simp only [name_Name.f, Option.bind_some, J, ite_self, Option.getD_some]
end Go.Proofs.YtafbmlhgcmlmpaaDoor.PT
