/- An expression that came in as an argument. -/
import Derived.Test.YtkdcgkdbieeijaaRexA
import Derived.WideShapes
import Derived.Lib.SmallJoins
namespace Go.Proofs.Ytkdcgkdbieeijaa
open Go.ChangeShapes Go.WideShapes Go.RowKit Go.Joins
set_option linter.unusedVariables false

theorem RxC.grow_ {w : World} {B B' : Nat} (hB : B ≤ B') : ∀ {n : Nat} {r : Rx} {cs : List Value}, RxC w B n r cs → RxC w B' n r cs
  | 0, _, _, h => h
  | n + 1, r, cs, ⟨h1, h2, A, cap, h3, h4, h5, h6, h7⟩ => ⟨h1, h2, A, cap, h3, h4, h5, fun hl => by
      obtain ⟨ad, e, hb⟩ := h6 hl
      exact ⟨ad, e, by omega⟩, fun i x hi => by
      obtain ⟨ad, cs', e, hc, hr⟩ := h7 i x hi
      exact ⟨ad, cs', e, hc, RxC.grow_ hB hr⟩⟩
theorem RxC.grow {w : World} {B B' : Nat} {n : Nat} {r : Rx} {cs : List Value} (h : RxC w B n r cs) (hB : B ≤ B') : RxC w B' n r cs := RxC.grow_ hB h
theorem At6.grow {w : World} {B B' i : Nat} {A : Option Addr} {cs : List Value} (hB : B ≤ B') (h : At6 w B A i cs) : At6 w B' A i cs := by
  obtain ⟨ad, e, hb, hc⟩ := h
  exact ⟨ad, e, by omega, hc⟩
theorem ReC.grow_ {w : World} {B B' : Nat} (hB : B ≤ B') : ∀ {q : Re} {cs : List Value}, ReC w B q cs → ReC w B' q cs
  | .none, _, h => h
  | .empty, _, h => h
  | .byte _, _, h => h
  | .beg, _, h => h
  | .fin, _, h => h
  | .cat a b, _, ⟨A, cap, ca, cb, h1, h2, h3, h4, h5, h6, h7⟩ => ⟨A, cap, ca, cb, h1, h2, h3, h4.grow hB, h5.grow hB, ReC.grow_ hB h6, ReC.grow_ hB h7⟩
  | .alt a b, _, ⟨A, cap, ca, cb, h1, h2, h3, h4, h5, h6, h7⟩ => ⟨A, cap, ca, cb, h1, h2, h3, h4.grow hB, h5.grow hB, ReC.grow_ hB h6, ReC.grow_ hB h7⟩
  | .star a, _, ⟨A, cap, ca, h1, h2, h3, h4, h5⟩ => ⟨A, cap, ca, h1, h2, h3, h4.grow hB, ReC.grow_ hB h5⟩
theorem ReC.grow {w : World} {B B' : Nat} {q : Re} {cs : List Value} (h : ReC w B q cs) (hB : B ≤ B') : ReC w B' q cs := ReC.grow_ hB h
/-- a struct that came in, as its cells -/
theorem open_aggV {H : Type} {enc : TypeId × Value → H} {P : Program} {w : World} {base : Nat} {spare : Nat → Bool} {held : Bool} {r : Reach} {b0 : Nat} {t : TypeId} {fs : Array Field} {v : Value} {d : DataW H} {p : List MemPlace}
    (hs : P.underlying t = some (.struct fs)) (hv : Value.okWide P w r b0 t v) (h : DataW.Trod enc P w base spare held t v d p) :
    ∃ (cs : List Value) (n : Nat), v = .agg cs.toArray ∧ DataW.trod enc P w base spare held n t cs = some (d, p) := by
  obtain ⟨cs, rfl, hsz⟩ := okWide_struct hs hv
  obtain ⟨l⟩ := cs
  obtain ⟨fuel, hf⟩ := h
  exact ⟨l, fuel, rfl, by simpa [Value.cells] using hf⟩
set_option maxRecDepth 100000 in
theorem open_rexV {H : Type} {enc : TypeId × Value → H} {W : World} {v : Value} {d : DataW H} {p : List MemPlace} {base : Nat}
    (hv : Value.okWide Try.prog W .any base 27 v) (h : DataW.Trod enc Try.prog W 0 (fun _ => true) true 27 v d p) :
    ∃ (n : Nat) (r : Rx) (cs : List Value), v = .agg cs.toArray ∧ RxC W W.heap.size n r cs := by
  obtain ⟨cs, n, e, hf⟩ := open_aggV Try.underlying27 hv h
  obtain ⟨r, hr⟩ := open_rex n cs _ hf
  exact ⟨n, r, cs, e, hr⟩
end Go.Proofs.Ytkdcgkdbieeijaa
