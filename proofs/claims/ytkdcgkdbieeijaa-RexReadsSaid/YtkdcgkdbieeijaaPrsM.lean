/- How far a reading goes; the readings of the program, by what copies a tree. -/
import Derived.Test.YtkdcgkdbieeijaaPrsL
namespace Go.Proofs.Ytkdcgkdbieeijaa
open Go.RowKit
set_option linter.unusedVariables false
set_option linter.unusedSimpArgs false

/-- within the text -/
def In1 (s : ByteArray) (x y : Sx) : Prop := y.p ≤ s.size ∧ x.p ≤ y.p
theorem Go1.in1 {s : ByteArray} {x y : Sx} (h : Go1 s x y) : In1 s x y := ⟨h.hi, h.lo⟩
theorem In1.tr {s : ByteArray} {x y z : Sx} (h : In1 s x y) (k : In1 s y z) : In1 s x z := ⟨k.1, Nat.le_trans h.2 k.2⟩
theorem In1.refl {s : ByteArray} {x : Sx} (h : x.p ≤ s.size) : In1 s x x := ⟨h, Nat.le_refl _⟩
theorem tkX_in {s : ByteArray} {x : Sx} {b : Int} (hb : 0 ≤ b) (h : x.p ≤ s.size) : In1 s x (tkX s x b) := by
  unfold tkX
  split
  · exact (up_go (by omega)).in1
  · exact In1.refl h
theorem fl_in {s : ByteArray} {x : Sx} (c : Int) (h : x.p ≤ s.size) : In1 s x (x.fl c) := ⟨by rw [fl_p]; exact h, by rw [fl_p]; exact Nat.le_refl _⟩
theorem clL_in (s : ByteArray) : ∀ (m : Nat) (one : Bool) (f : Nat → Bool) (x : Sx), x.p ≤ s.size → In1 s x (clL s m one f x).2
  | 0, _, _, _, h => In1.refl h
  | m + 1, one, f, x, h => by
    by_cases hc : x.e = 0 ∧ (one = true ∨ ¬ nx s x = 93)
    · cases hg : gr s x with
      | some g =>
        rw [clL_set hc hg]
        have g1 := gr_go hg
        exact g1.in1.tr (clL_in s m _ _ _ g1.hi)
      | none =>
        have g1 := ch_go s x h
        by_cases h45 : nx s (ch s x).2 = 45
        · rw [clL_two hc hg h45]
          have g2 := g1.tr (up_go (by omega))
          have g3 := g2.tr (ch_go s (ch s x).2.up g2.hi)
          split
          · have e : In1 s x ⟨(ch s x).2.p + 1, 3⟩ := ⟨g2.hi, g2.lo⟩
            exact e.tr (clL_in s m _ _ _ e.1)
          · exact g3.in1.tr (clL_in s m _ _ _ g3.hi)
        · rw [clL_one hc hg h45]
          exact g1.in1.tr (clL_in s m _ _ _ g1.hi)
    · rw [clL_stop _ hc]; exact In1.refl h
theorem cls_in (s : ByteArray) (x : Sx) (h : x.p ≤ s.size) : In1 s x (cls s x).2 := by
  have h1 := tkX_in (s := s) (x := x) (b := 94) (by decide) h
  have h2 := h1.tr (clL_in s (s.size + 1) true (fun _ => false) (tkX s x 94) h1.1)
  have key : ∀ (q : Q4) (r : Sx), In1 s x r → In1 s x (tkX s (if q.zero = true then r.fl 3 else r) 93) := by
    intro q r hr
    split
    · have h3 := hr.tr (fl_in 3 hr.1)
      exact h3.tr (tkX_in (b := 93) (by decide) h3.1)
    · exact hr.tr (tkX_in (b := 93) (by decide) hr.1)
  exact key (mkQ (if nx s x = 94 then fun b => !(clL s (s.size + 1) true (fun _ => false) (tkX s x 94)).1 b else (clL s (s.size + 1) true (fun _ => false) (tkX s x 94)).1)) _ h2
theorem lpP_in (s : ByteArray) : ∀ (m : Nat) (t : Rx) (x : Sx), x.p ≤ s.size → In1 s x (lpP s m t x).2 ∧ (lpP s m t x).2.e = x.e
  | 0, _, _, h => ⟨In1.refl h, rfl⟩
  | m + 1, t, x, h => by
    rw [lpP]
    split
    · have g := (up_go (s := s) (x := x) (by omega)).in1
      have k := lpP_in s m (tStar t) x.up g.1
      exact ⟨g.tr k.1, k.2⟩
    · split
      · have g := (up_go (s := s) (x := x) (by omega)).in1
        have k := lpP_in s m (tTwo 5 t (tOne 2)) x.up g.1
        exact ⟨g.tr k.1, k.2⟩
      · split
        · have g := (up_go (s := s) (x := x) (by omega)).in1
          have k := lpP_in s m (tTwo 4 t (tStar (tAgain t))) x.up g.1
          exact ⟨g.tr k.1, k.2⟩
        · exact ⟨In1.refl h, rfl⟩
section
variable {s : ByteArray} {A : Sx → Rx × Sx}
theorem pcF_go (hA : GoS s A) : GoS s (pcF s A) := fun x he hp => by
  have g := hA x he hp
  have k := lpP_in s (s.size + 1) (A x).1 (A x).2 g.hi
  exact ⟨k.1.1, Nat.le_trans g.lo k.1.2, fun hy => Nat.lt_of_lt_of_le (g.ok (by rw [← k.2]; exact hy)) k.1.2⟩
theorem lpR_in (hA : GoS s A) : ∀ (m : Nat) (t : Rx) (x : Sx), x.p ≤ s.size → In1 s x (lpR s A m t x).2
  | 0, _, _, h => In1.refl h
  | m + 1, t, x, h => by
    by_cases hc : enB s x = true
    · rw [lpR_stop _ hc]; exact In1.refl h
    · rw [lpR_go hc]
      have g := (hA x (enB_no hc).1 h).in1
      exact g.tr (lpR_in hA m _ _ g.1)
theorem rwF_go (hA : GoS s A) : Go0 s (rwF s A) := fun x he hp => by
  unfold rwF
  split
  · exact In1.refl hp
  · have g := (hA x he hp).in1
    exact g.tr (lpR_in hA _ _ _ g.1)
theorem lpA_in (hA : Go0 s A) : ∀ (m : Nat) (t : Rx) (x : Sx), x.p ≤ s.size → In1 s x (lpA s A m t x).2
  | 0, _, _, h => In1.refl h
  | m + 1, t, x, h => by
    by_cases hc : nx s x = 124
    · rw [lpA_go hc]
      have g0 := up_go (s := s) (x := x) (by omega)
      have g : In1 s x (A x.up).2 := g0.in1.tr (hA x.up (nx_some (s := s) (x := x) (by omega)).1 g0.hi)
      exact g.tr (lpA_in hA m _ _ g.1)
    · rw [lpA_stop _ hc]; exact In1.refl h
theorem atF_go (hA : Go0 s A) : Go0 s (atF s A) := fun x he hp => by
  have g : In1 s x (A x).2 := hA x he hp
  exact g.tr (lpA_in hA _ _ _ g.1)
theorem alF_go (hA : GoS s A) : Go0 s (alF s A) := atF_go (rwF_go (pcF_go hA))
theorem amG_go {o : Option (Sx → Rx × Sx)} (hB : ∀ B, o = some B → Go0 s B) : GoS s (amG s o) := fun x he hp => by
  unfold amG
  split
  · have g0 := up_go (s := s) (x := x) (by omega)
    cases o with
    | none => exact fl_go (by decide) hp
    | some B =>
      have g : In1 s x.up (B x.up).2 := hB B rfl x.up he g0.hi
      have hup : x.up.p = x.p + 1 := rfl
      have h2 := g.2
      dsimp only
      split
      · have g3 := (up_go (s := s) (x := (B x.up).2) (by omega)).in1
        have h3 := g3.2
        exact ⟨g3.1, by omega, fun _ => by omega⟩
      · have g3 := fl_in (s := s) (x := (B x.up).2) 3 g.1
        have h3 := g3.2
        exact ⟨g3.1, by omega, fun _ => by omega⟩
  · split
    · exact up_go (by omega)
    · split
      · exact up_go (by omega)
      · split
        · exact up_go (by omega)
        · split
          · have g0 := up_go (s := s) (x := x) (by omega)
            have g := cls_in s x.up g0.hi
            have hup : x.up.p = x.p + 1 := rfl
            have h2 := g.2
            exact ⟨g.1, by dsimp only; omega, fun _ => by dsimp only; omega⟩
          · cases hg : gr s x with
            | some f => exact gr_go hg
            | none => exact ch_go s x hp
theorem amF_go (s : ByteArray) : ∀ n, GoS s (amF s n)
  | 0 => by rw [amF_zero]; exact amG_go fun B h => by cases h
  | n + 1 => by
    rw [amF_succ]
    exact amG_go fun B h => by cases h; exact alF_go (amF_go s n)
end
/-- the program's readings, n brackets more may open -/
theorem reads_ok (s : ByteArray) (hs : s.size ≤ 200) (hCopy : ∀ d, CpOk 66 d) : ∀ n : Nat, n ≤ 20 → PsOk 64 (20 - (n : Int)) s (amF s n)
  | 0, _ => by
    rw [amF_zero]
    exact atom_ok s hs _ none ⟨by omega, by omega⟩ (fun _ => by omega) fun B h => by cases h
  | n + 1, hn => by
    rw [amF_succ]
    have ih := reads_ok s hs hCopy n (by omega)
    have hg := amF_go s n
    have h1 := piece_ok s hs _ _ hCopy ih hg
    have h2 := row_ok s hs _ _ h1 (pcF_go hg)
    have h3 := alt_ok s hs _ _ h2 (rwF_go (pcF_go hg))
    refine atom_ok s hs _ _ ⟨by omega, by omega⟩ (fun h => by cases h) fun B h => ?_
    cases h
    refine ⟨by omega, ?_, alF_go hg⟩
    have e : (20 : Int) - ((n + 1 : Nat) : Int) + 1 = 20 - (n : Int) := by omega
    rw [e]; exact h3
theorem alt_reads (s : ByteArray) (hs : s.size ≤ 200) (hCopy : ∀ d, CpOk 66 d) : PsOk 12 0 s (alF s (amF s 20)) := by
  have ih := reads_ok s hs hCopy 20 (by omega)
  have hg := amF_go s 20
  have h3 := alt_ok s hs _ _ (row_ok s hs _ _ (piece_ok s hs _ _ hCopy ih hg) (pcF_go hg)) (rwF_go (pcF_go hg))
  exact h3
end Go.Proofs.Ytkdcgkdbieeijaa
