/- Lists out of what holds at every place (plain). -/
import Derived.Test.YtmkaghpnihlhcaaProg
namespace Go.Proofs.Ytmkaghpnihlhcaa
set_option linter.unusedVariables false
set_option linter.unusedSimpArgs false
theorem list_of_lt {α β:Type} {n:Nat} {P:Nat→β→α→Prop} (h:∀ i,i<n→∃ b a,P i b a):∃ l:List α,l.length=n∧∀ i (hi:i<l.length),∃ b,P i b l[i]:=by
 induction n with
 |zero=>exact⟨[],rfl,fun i hi=>absurd hi (by simp)⟩
 |succ n ih=>
  obtain⟨l,hl,hP⟩:=ih fun i hi=>h i (by omega)
  obtain⟨b,a,hb⟩:=h n (by omega)
  refine⟨l++ [a],by simp [hl],fun i hi=> ?_⟩
  by_cases hin:i<l.length
  · rw [List.getElem_append_left hin];exact hP i hin
  · obtain rfl:i=n:=by simp at hi;omega
    exact⟨b,by rw [List.getElem_append_right (by omega)];simpa [hl] using hb⟩
end Go.Proofs.Ytmkaghpnihlhcaa
