/- Chapter 22, plainly: below is chk; what is so of every node of a tree that may be. -/
import Derived.Test.YtafbmlhgcmlmpaaDoorVa
namespace Go.Proofs.YtafbmlhgcmlmpaaDoor.PT
open Go.RowKit Go.Proofs.YtafbmlhgcmlmpaaDoorW.PrintWords Go.Proofs.YtafbmlhgcmlmpaaDoorW.PrintLast Go.Proofs.YtafbmlhgcmlmpaaDoorW.PrintMore
set_option linter.unusedVariables false
set_option linter.unusedSimpArgs false
theorem kidsF_range (l : List S33) (f : Int → Int → Option (Bool × Int)) (hf : ∀ (i nx : Int) (r : Bool × Int), 0 ≤ nx → nx ≤ l.length → f i nx = some r → nx ≤ r.2 ∧ r.2 ≤ l.length) : ∀ (ks : List Int) (at_ nx : Int) r, 0 ≤ nx → nx ≤ l.length → kidsF l f ks at_ nx = some r → nx ≤ r.2 ∧ r.2 ≤ l.length
  | [], at_, nx, r, h, h1, hr => by
    obtain rfl := Option.some.inj hr
    exact ⟨Int.le_refl _, h1⟩
  | k :: ks, at_, nx, r, h, h1, hr => by
    simp only [kidsF] at hr
    split at hr
    · obtain rfl := Option.some.inj hr
      exact ⟨Int.le_refl _, h1⟩
    · obtain ⟨q, hq, hr⟩ := Option.bind_eq_some_iff.1 hr
      have h2 := hf _ _ _ h h1 hq
      split at hr
      · have := kidsF_range l f hf ks _ _ r (by omega) h2.2 hr
        omega
      · obtain rfl := Option.some.inj hr
        exact h2
theorem chk_range : ∀ (n : Nat) (l : List S33) (i nx : Int) r, 0 ≤ nx → nx ≤ l.length → chk n l i nx = some r → nx ≤ r.2 ∧ r.2 ≤ l.length
  | 0, l, i, nx, r, h, h1, hr => by cases hr
  | n + 1, l, i, nx, r, h, h1, hr => by
    unfold chk at hr
    split at hr
    · obtain rfl := Option.some.inj hr
      exact ⟨Int.le_refl _, h1⟩
    · split at hr
      · obtain rfl := Option.some.inj hr
        exact ⟨Int.le_refl _, h1⟩
      · split at hr
        · obtain rfl := Option.some.inj hr
          exact ⟨Int.le_refl _, h1⟩
        · obtain ⟨q, hq, hr⟩ := Option.bind_eq_some_iff.1 hr
          have h2 := kidsF_range l (chk n l) (fun i nx r a b c => chk_range n l i nx r a b c) _ _ _ _ (by omega) (by omega) hq
          obtain rfl := Option.some.inj hr
          cases q.1 <;> (simp only; omega)
end Go.Proofs.YtafbmlhgcmlmpaaDoor.PT
