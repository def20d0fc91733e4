/- The reference's readings. -/
import Derived.Test.YtkdcgkdbieeijaaRfE
import Derived.Test.YtkdcgkdbieeijaaRfF
import Derived.Test.YtkdcgkdbieeijaaRfH
namespace Go.Proofs.Ytkdcgkdbieeijaa
open Go.RowKit
set_option linter.unusedVariables false
set_option linter.unusedSimpArgs false

/-- the reference's readings, n brackets more may open -/
theorem readsR (s : ByteArray) (hs : s.size ≤ 200) : ∀ n : Nat, n ≤ 20 → TsOk 67 (20 - (n : Int)) s (amF s n)
  | 0, _ => by
    rw [amF_zero]
    exact atom_okR s hs _ none ⟨by omega, by omega⟩ (fun _ => by omega) fun B h => by cases h
  | n + 1, hn => by
    rw [amF_succ]
    have ih := readsR s hs n (by omega)
    have hg := amF_go s n
    have h1 := piece_okR s hs _ ⟨by omega, by omega⟩ _ ih hg
    have h2 := row_okR s hs _ ⟨by omega, by omega⟩ _ h1 (pcF_go hg)
    have h3 := alt_okR s hs _ ⟨by omega, by omega⟩ _ h2 (rwF_go (pcF_go hg))
    refine atom_okR s hs _ _ ⟨by omega, by omega⟩ (fun h => by cases h) fun B h => ?_
    cases h
    refine ⟨by omega, ?_, alF_go hg⟩
    have e : (20 : Int) - ((n + 1 : Nat) : Int) + 1 = 20 - (n : Int) := by omega
    rw [e]; exact h3
theorem altR (s : ByteArray) (hs : s.size ≤ 200) : TsOk 15 0 s (alF s (amF s 20)) := by
  have ih := readsR s hs 20 (by omega)
  have hg := amF_go s 20
  have h3 := alt_okR s hs _ ⟨by omega, by omega⟩ _ (row_okR s hs _ ⟨by omega, by omega⟩ _ (piece_okR s hs _ ⟨by omega, by omega⟩ _ ih hg) (pcF_go hg)) (rwF_go (pcF_go hg))
  exact h3
end Go.Proofs.Ytkdcgkdbieeijaa
