/- Regular expressions as data: the tree, what it is to read as one in memory, the look at it (P15), plainly. -/
import Derived.Test.YtkdcgkdbieeijaaProg
import Derived.Test.YtkdcgkdbieeijaaMem
import Derived.Test.YtkdcgkdbieeijaaQ4
import Derived.Test.YtkdcgkdbieeijaaLst
import Derived.Carry
import Derived.OpenShut
import Derived.ChangeArms
import Derived.Laws.IdiomArrays
namespace Go.Proofs.Ytkdcgkdbieeijaa
open Go.RowKit Go.ChangeShapes
set_option linter.unusedVariables false
set_option linter.unusedSimpArgs false

/-- an expression, right or wrong -/
inductive Rx where
  | mk (k : Int) (s : Q4) (ks : List Rx)
def Rx.k : Rx → Int
  | .mk k _ _ => k
def Rx.s : Rx → Q4
  | .mk _ s _ => s
def Rx.ks : Rx → List Rx
  | .mk _ _ ks => ks
abbrev rexCs (k : Int) (s : Q4) (A : Option Addr) (n cap : Nat) : List Value := [.int .i64 k, .int .u64 (s.a : Int), .int .u64 (s.b : Int), .int .u64 (s.c : Int), .int .u64 (s.d : Int), .slice A n cap]
/-- cells that read as an expression; its parts lie below B -/
def RxC (w : World) (B : Nat) : Nat → Rx → List Value → Prop
  | 0, _, _ => False
  | n + 1, r, cs => r.s.ok ∧ (-9223372036854775808 ≤ r.k ∧ r.k ≤ 9223372036854775807) ∧ ∃ (A : Option Addr) (cap : Nat), cs = rexCs r.k r.s A r.ks.length cap ∧ r.ks.length ≤ cap ∧ cap ≤ 9223372036854775807 ∧
      (0 < r.ks.length → ∃ ad, A = some ad ∧ ad.block < B) ∧
      ∀ i x, r.ks[i]? = some x → ∃ ad cs', A = some ad ∧ (∀ j u, cs'[j]? = some u → w.cell? (ad.add (i * 6 + j)) = some u) ∧ RxC w B n x cs'

theorem RxC.keep {w w' : World} {B : Nat} (hk : ∀ p : Addr, p.block < B → w'.cell? p = w.cell? p) : ∀ {n : Nat} {r : Rx} {cs : List Value}, RxC w B n r cs → RxC w' B n r cs
  | 0, _, _, h => h
  | n + 1, r, cs, ⟨h1, h2, A, cap, h3, h4, h5, h6, h7⟩ => ⟨h1, h2, A, cap, h3, h4, h5, h6, fun i x hi => by
      obtain ⟨ad, cs', e, hc, hr⟩ := h7 i x hi
      obtain ⟨ad', e', hb⟩ := h6 (by
        rcases Nat.eq_zero_or_pos r.ks.length with h | h
        · rw [List.getElem?_eq_none (by omega)] at hi; cases hi
        · exact h)
      rw [e] at e'; injection e' with e'; subst e'
      exact ⟨ad, cs', e, fun j u hu => (hk _ (by rw [block_of_add]; exact hb)).trans (hc j u hu), RxC.keep hk hr⟩⟩
theorem RxC.below {w w' : World} {B : Nat} {n : Nat} {r : Rx} {cs : List Value} (h : RxC w B n r cs) (hb : Below B w w') : RxC w' B n r cs := h.keep fun _ hp => hb.cell hp

theorem RxC.alloc {w : World} {B : Nat} {n : Nat} {r : Rx} {cs : List Value} (h : RxC w B n r cs) (hB : B ≤ w.heap.size) (o : Obj) : RxC (w.alloc o) B n r cs := h.keep fun p hp => World.cell?_alloc_lt w o p (by omega)
theorem RxC.drew {w : World} {B : Nat} {n : Nat} {r : Rx} {cs : List Value} (h : RxC w B n r cs) : RxC w.drew B n r cs := RxC.keep (w := w) (w' := w.drew) (fun _ _ => rfl) h

/-- how many parts a kind has; -1: no kind -/
def wantK (k : Int) : Int := if k = 4 ∨ k = 5 then 2 else if k = 6 then 1 else if k = 1 ∨ k = 2 ∨ k = 3 ∨ k = 7 ∨ k = 8 then 0 else -1
def okR (r : Rx) : Bool := wantK r.k == (r.ks.length : Int) && ((r.k == 3) == !r.s.zero)
def chkL (f : Rx → Nat → Int × Nat) : List Rx → Nat → Int × Nat
  | [], m => (0, m)
  | k :: ks, m => if (f k m).1 ≠ 0 then f k m else chkL f ks (f k m).2
/-- the look at an expression: what is wrong, how many nodes were seen -/
def chk : Nat → Rx → Int → Nat → Int × Nat
  | 0, _, _, m => (0, m)
  | n + 1, r, deep, m => if 80 < m + 1 then (2, m + 1) else if 20 < deep then (11, m + 1) else if okR r = false then (1, m + 1) else chkL (fun k m => chk n k (deep + 1) m) r.ks (m + 1)

theorem chkL_lo {f : Rx → Nat → Int × Nat} (hf : ∀ k m, m ≤ (f k m).2 ∧ ((f k m).1 = 0 → m ≤ 80 → (f k m).2 ≤ 80)) : ∀ (ks : List Rx) (m : Nat), m ≤ (chkL f ks m).2 ∧ ((chkL f ks m).1 = 0 → m ≤ 80 → (chkL f ks m).2 ≤ 80)
  | [], m => ⟨Nat.le_refl _, fun _ h => h⟩
  | k :: ks, m => by
    unfold chkL
    by_cases h : (f k m).1 ≠ 0
    · rw [if_pos h]; exact ⟨(hf k m).1, fun h0 => absurd h0 h⟩
    · rw [if_neg h]
      have h1 := chkL_lo hf ks (f k m).2
      have h2 := hf k m
      exact ⟨Nat.le_trans h2.1 h1.1, fun h0 hm => h1.2 h0 (h2.2 (by simpa using h) hm)⟩
theorem chk_lo : ∀ (n : Nat) (r : Rx) (deep : Int) (m : Nat), m ≤ (chk n r deep m).2 ∧ ((chk n r deep m).1 = 0 → m ≤ 80 → (chk n r deep m).2 ≤ 80)
  | 0, r, deep, m => ⟨Nat.le_refl _, fun _ h => h⟩
  | n + 1, r, deep, m => by
    unfold chk
    by_cases h1 : 80 < m + 1
    · rw [if_pos h1]; exact ⟨by simp, fun h => absurd h (by simp)⟩
    · rw [if_neg h1]
      by_cases h2 : 20 < deep
      · rw [if_pos h2]; exact ⟨by simp, fun h => absurd h (by simp)⟩
      · rw [if_neg h2]
        by_cases h3 : okR r = false
        · rw [if_pos h3]; exact ⟨by simp, fun h => absurd h (by simp)⟩
        · rw [if_neg h3]
          have h4 := chkL_lo (fun k m => chk_lo n k (deep + 1) m) r.ks (m + 1)
          exact ⟨by omega, fun h hm => h4.2 h (by omega)⟩
theorem chk_many {n : Nat} {r : Rx} {deep : Int} {m : Nat} (h : 80 < m + 1) : chk (n + 1) r deep m = (2, m + 1) := by rw [chk, if_pos h]
theorem chk_deep {n : Nat} {r : Rx} {deep : Int} {m : Nat} (h : ¬ 80 < m + 1) (h2 : 20 < deep) : chk (n + 1) r deep m = (11, m + 1) := by rw [chk, if_neg h, if_pos h2]
theorem chk_bad {n : Nat} {r : Rx} {deep : Int} {m : Nat} (h : ¬ 80 < m + 1) (h2 : ¬ 20 < deep) (h3 : okR r = false) : chk (n + 1) r deep m = (1, m + 1) := by rw [chk, if_neg h, if_neg h2, if_pos h3]
theorem chk_kids {n : Nat} {r : Rx} {deep : Int} {m : Nat} (h : ¬ 80 < m + 1) (h2 : ¬ 20 < deep) (h3 : okR r = true) : chk (n + 1) r deep m = chkL (fun k m => chk n k (deep + 1) m) (r.ks.drop 0) (m + 1) := by
  rw [chk, if_neg h, if_neg h2, if_neg (by rw [h3]; simp), List.drop_zero]
theorem chkL_end {f : Rx → Nat → Int × Nat} {ks : List Rx} {i m : Nat} (h : ks.length ≤ i) : chkL f (ks.drop i) m = (0, m) := by rw [List.drop_of_length_le h]; rfl
theorem chkL_bad {f : Rx → Nat → Int × Nat} {ks : List Rx} {i m : Nat} {x : Rx} {e : Int} {m' : Nat} (h : ks[i]? = some x) (hf : f x m = (e, m')) (he : e ≠ 0) : chkL f (ks.drop i) m = (e, m') := by
  obtain ⟨hi, rfl⟩ := List.getElem?_eq_some_iff.1 h
  rw [List.drop_eq_getElem_cons hi, chkL, hf, if_pos he]
theorem chkL_more {f : Rx → Nat → Int × Nat} {ks : List Rx} {i m : Nat} {x : Rx} {m' : Nat} (h : ks[i]? = some x) (hf : f x m = (0, m')) : chkL f (ks.drop i) m = chkL f (ks.drop (i + 1)) m' := by
  obtain ⟨hi, rfl⟩ := List.getElem?_eq_some_iff.1 h
  rw [List.drop_eq_getElem_cons hi, chkL, hf, if_neg (by simp)]

/-- a right expression -/
inductive Re where
  | none | empty | byte (s : Q4) | cat (a b : Re) | alt (a b : Re) | star (a : Re) | beg | fin
def Re.kind : Re → Int
  | .none => 1 | .empty => 2 | .byte _ => 3 | .cat _ _ => 4 | .alt _ _ => 5 | .star _ => 6 | .beg => 7 | .fin => 8
def Re.set : Re → Q4
  | .byte s => s
  | _ => ⟨0, 0, 0, 0⟩
def Re.kids : Re → List Re
  | .cat a b => [a, b]
  | .alt a b => [a, b]
  | .star a => [a]
  | _ => []
def Re.size : Re → Nat
  | .cat a b => a.size + b.size + 1
  | .alt a b => a.size + b.size + 1
  | .star a => a.size + 1
  | _ => 1
def Re.deep : Re → Nat
  | .cat a b => max a.deep b.deep + 1
  | .alt a b => max a.deep b.deep + 1
  | .star a => a.deep + 1
  | _ => 1
/-- no empty set of bytes in it -/
def Re.right : Re → Prop
  | .byte s => s.zero = false
  | .cat a b => a.right ∧ b.right
  | .alt a b => a.right ∧ b.right
  | .star a => a.right
  | _ => True
/-- its cell i of the kids' row -/
def At6 (w : World) (B : Nat) (A : Option Addr) (i : Nat) (cs : List Value) : Prop := ∃ ad, A = some ad ∧ ad.block < B ∧ ∀ j u, cs[j]? = some u → w.cell? (ad.add (i * 6 + j)) = some u
/-- cells that read as a right expression -/
def ReC (w : World) (B : Nat) : Re → List Value → Prop
  | .none, cs => ∃ A cap, cs = rexCs 1 ⟨0, 0, 0, 0⟩ A 0 cap
  | .empty, cs => ∃ A cap, cs = rexCs 2 ⟨0, 0, 0, 0⟩ A 0 cap
  | .byte s, cs => s.ok ∧ s.zero = false ∧ ∃ A cap, cs = rexCs 3 s A 0 cap
  | .cat a b, cs => ∃ A cap ca cb, cs = rexCs 4 ⟨0, 0, 0, 0⟩ A 2 cap ∧ 2 ≤ cap ∧ cap ≤ 9223372036854775807 ∧ At6 w B A 0 ca ∧ At6 w B A 1 cb ∧ ReC w B a ca ∧ ReC w B b cb
  | .alt a b, cs => ∃ A cap ca cb, cs = rexCs 5 ⟨0, 0, 0, 0⟩ A 2 cap ∧ 2 ≤ cap ∧ cap ≤ 9223372036854775807 ∧ At6 w B A 0 ca ∧ At6 w B A 1 cb ∧ ReC w B a ca ∧ ReC w B b cb
  | .star a, cs => ∃ A cap ca, cs = rexCs 6 ⟨0, 0, 0, 0⟩ A 1 cap ∧ 1 ≤ cap ∧ cap ≤ 9223372036854775807 ∧ At6 w B A 0 ca ∧ ReC w B a ca
  | .beg, cs => ∃ A cap, cs = rexCs 7 ⟨0, 0, 0, 0⟩ A 0 cap
  | .fin, cs => ∃ A cap, cs = rexCs 8 ⟨0, 0, 0, 0⟩ A 0 cap
theorem At6.keep {w w' : World} {B i : Nat} {A : Option Addr} {cs : List Value} (hk : ∀ p : Addr, p.block < B → w'.cell? p = w.cell? p) (h : At6 w B A i cs) : At6 w' B A i cs := by
  obtain ⟨ad, e, hb, hc⟩ := h
  exact ⟨ad, e, hb, fun j u hu => (hk _ (by rw [block_of_add]; exact hb)).trans (hc j u hu)⟩
theorem ReC.keep {w w' : World} {B : Nat} (hk : ∀ p : Addr, p.block < B → w'.cell? p = w.cell? p) : ∀ {q : Re} {cs : List Value}, ReC w B q cs → ReC w' B q cs
  | .none, _, h => h
  | .empty, _, h => h
  | .byte _, _, h => h
  | .beg, _, h => h
  | .fin, _, h => h
  | .cat a b, _, ⟨A, cap, ca, cb, h1, h2, h3, h4, h5, h6, h7⟩ => ⟨A, cap, ca, cb, h1, h2, h3, h4.keep hk, h5.keep hk, ReC.keep hk h6, ReC.keep hk h7⟩
  | .alt a b, _, ⟨A, cap, ca, cb, h1, h2, h3, h4, h5, h6, h7⟩ => ⟨A, cap, ca, cb, h1, h2, h3, h4.keep hk, h5.keep hk, ReC.keep hk h6, ReC.keep hk h7⟩
  | .star a, _, ⟨A, cap, ca, h1, h2, h3, h4, h5⟩ => ⟨A, cap, ca, h1, h2, h3, h4.keep hk, ReC.keep hk h5⟩
theorem ReC.below {w w' : World} {B : Nat} {q : Re} {cs : List Value} (h : ReC w B q cs) (hb : Below B w w') : ReC w' B q cs := h.keep fun _ hp => hb.cell hp

theorem ReC.alloc {w : World} {B : Nat} {q : Re} {cs : List Value} (h : ReC w B q cs) (hB : B ≤ w.heap.size) (o : Obj) : ReC (w.alloc o) B q cs := h.keep fun p hp => World.cell?_alloc_lt w o p (by omega)
theorem ReC.drew {w : World} {B : Nat} {q : Re} {cs : List Value} (h : ReC w B q cs) : ReC w.drew B q cs := ReC.keep (w := w) (w' := w.drew) (fun _ _ => rfl) h

theorem chk_ok {n : Nat} {r : Rx} {deep : Int} {m : Nat} (h : (chk (n + 1) r deep m).1 = 0) : m + 1 ≤ 80 ∧ deep ≤ 20 ∧ okR r = true ∧ chk (n + 1) r deep m = chkL (fun k m => chk n k (deep + 1) m) r.ks (m + 1) := by
  rw [chk] at h ⊢
  by_cases h1 : 80 < m + 1
  · rw [if_pos h1] at h; cases h
  · rw [if_neg h1] at h ⊢
    by_cases h2 : 20 < deep
    · rw [if_pos h2] at h; cases h
    · rw [if_neg h2] at h ⊢
      by_cases h3 : okR r = false
      · rw [if_pos h3] at h; cases h
      · rw [if_neg h3] at h ⊢
        exact ⟨by omega, by omega, by simpa using h3, rfl⟩
theorem chkL_ok {f : Rx → Nat → Int × Nat} {k : Rx} {ks : List Rx} {m : Nat} (h : (chkL f (k :: ks) m).1 = 0) : (f k m).1 = 0 ∧ chkL f (k :: ks) m = chkL f ks (f k m).2 := by
  rw [chkL] at h ⊢
  by_cases h1 : (f k m).1 ≠ 0
  · rw [if_pos h1] at h; exact absurd h h1
  · rw [if_neg h1] at h ⊢; exact ⟨by simpa using h1, rfl⟩
theorem wantK_0 {k : Int} (h : wantK k = 0) : k = 1 ∨ k = 2 ∨ k = 3 ∨ k = 7 ∨ k = 8 := by
  unfold wantK at h
  by_cases a : k = 4 ∨ k = 5
  · rw [if_pos a] at h; omega
  · rw [if_neg a] at h
    by_cases b : k = 6
    · rw [if_pos b] at h; omega
    · rw [if_neg b] at h
      by_cases c : k = 1 ∨ k = 2 ∨ k = 3 ∨ k = 7 ∨ k = 8
      · exact c
      · rw [if_neg c] at h; omega
theorem wantK_1 {k : Int} (h : wantK k = 1) : k = 6 := by
  unfold wantK at h
  by_cases a : k = 4 ∨ k = 5
  · rw [if_pos a] at h; omega
  · rw [if_neg a] at h
    by_cases b : k = 6
    · exact b
    · rw [if_neg b] at h
      by_cases c : k = 1 ∨ k = 2 ∨ k = 3 ∨ k = 7 ∨ k = 8
      · rw [if_pos c] at h; omega
      · rw [if_neg c] at h; omega
theorem wantK_2 {k : Int} (h : wantK k = 2) : k = 4 ∨ k = 5 := by
  unfold wantK at h
  by_cases a : k = 4 ∨ k = 5
  · exact a
  · rw [if_neg a] at h
    by_cases b : k = 6
    · rw [if_pos b] at h; omega
    · rw [if_neg b] at h
      by_cases c : k = 1 ∨ k = 2 ∨ k = 3 ∨ k = 7 ∨ k = 8
      · rw [if_pos c] at h; omega
      · rw [if_neg c] at h; omega
theorem wantK_3 (k : Int) : wantK k < 3 := by
  unfold wantK
  by_cases a : k = 4 ∨ k = 5
  · rw [if_pos a]; omega
  · rw [if_neg a]
    by_cases b : k = 6
    · rw [if_pos b]; omega
    · rw [if_neg b]
      by_cases c : k = 1 ∨ k = 2 ∨ k = 3 ∨ k = 7 ∨ k = 8
      · rw [if_pos c]; omega
      · rw [if_neg c]; omega
/-- what passes the look is right -/
theorem right_of_chk {w : World} {B : Nat} : ∀ (n : Nat) (r : Rx) (cs : List Value) (deep : Int) (m : Nat), RxC w B n r cs → (chk n r deep m).1 = 0 → m ≤ 80 →
    ∃ q : Re, ReC w B q cs ∧ q.right ∧ (chk n r deep m).2 = m + q.size ∧ m + q.size ≤ 80 ∧ deep + q.deep ≤ 21
  | 0, _, _, _, _, h, _, _ => h.elim
  | n + 1, .mk k s ks, cs, deep, m, ⟨hs, hk, A, cap, e, h4, h5, h6, h7⟩, h0, hm => by
    obtain ⟨h1, h2, h3, h8⟩ := chk_ok h0
    rw [h8] at h0 ⊢
    simp only [Rx.k, Rx.s, Rx.ks] at *
    subst e
    simp only [okR, Rx.k, Rx.s, Rx.ks, Bool.and_eq_true, beq_iff_eq] at h3
    obtain ⟨hw, hz⟩ := h3
    have hno : ∀ k' : Int, k = k' → k' ≠ 3 → s = ⟨0, 0, 0, 0⟩ := by
      intro k' e he
      subst e
      rw [beq_eq_false_iff_ne.2 he] at hz
      exact zero_q4 (by simpa using hz.symm)
    rcases ks with _ | ⟨x, _ | ⟨y, _ | ⟨z, l⟩⟩⟩
    · have hk' : k = 1 ∨ k = 2 ∨ k = 3 ∨ k = 7 ∨ k = 8 := wantK_0 (by simpa using hw)
      simp only [chkL]
      rcases hk' with rfl | rfl | rfl | rfl | rfl
      · obtain rfl := hno 1 rfl (by decide); exact ⟨.none, ⟨A, cap, rfl⟩, trivial, rfl, by simpa [Re.size] using h1, by simp [Re.deep]; omega⟩
      · obtain rfl := hno 2 rfl (by decide); exact ⟨.empty, ⟨A, cap, rfl⟩, trivial, rfl, by simpa [Re.size] using h1, by simp [Re.deep]; omega⟩
      · have hz' : s.zero = false := by simpa using hz
        exact ⟨.byte s, ⟨hs, hz', A, cap, rfl⟩, hz', rfl, by simpa [Re.size] using h1, by simp [Re.deep]; omega⟩
      · obtain rfl := hno 7 rfl (by decide); exact ⟨.beg, ⟨A, cap, rfl⟩, trivial, rfl, by simpa [Re.size] using h1, by simp [Re.deep]; omega⟩
      · obtain rfl := hno 8 rfl (by decide); exact ⟨.fin, ⟨A, cap, rfl⟩, trivial, rfl, by simpa [Re.size] using h1, by simp [Re.deep]; omega⟩
    · have hk' : k = 6 := wantK_1 (by simpa using hw)
      subst hk'
      obtain rfl := hno 6 rfl (by decide)
      obtain ⟨ad, ca, rfl, hc, hr⟩ := h7 0 x rfl
      obtain ⟨_, e', hb⟩ := h6 (by simp)
      injection e' with e'; subst e'
      obtain ⟨k0, k1⟩ := chkL_ok h0
      rw [k1] at h0 ⊢
      obtain ⟨q, q1, q2, q3, q4, q5⟩ := right_of_chk n x ca (deep + 1) (m + 1) hr k0 h1
      refine ⟨.star q, ⟨_, cap, ca, rfl, h4, h5, ⟨ad, rfl, hb, hc⟩, q1⟩, q2, ?_, ?_, ?_⟩
      · simp only [chkL, Re.size]; rw [q3]; omega
      · simp only [Re.size]; omega
      · simp only [Re.deep]; omega
    · have hk' : k = 4 ∨ k = 5 := wantK_2 (by simpa using hw)
      obtain ⟨ad, ca, rfl, hc, hr⟩ := h7 0 x rfl
      obtain ⟨_, e', hb⟩ := h6 (by simp)
      injection e' with e'; subst e'
      obtain ⟨_, cb, e', hc2, hr2⟩ := h7 1 y rfl
      injection e' with e'; subst e'
      obtain ⟨k0, k1⟩ := chkL_ok h0
      rw [k1] at h0 ⊢
      obtain ⟨q, q1, q2, q3, q4, q5⟩ := right_of_chk n x ca (deep + 1) (m + 1) hr k0 h1
      obtain ⟨k2, k3⟩ := chkL_ok h0
      rw [k3] at h0 ⊢
      simp only [q3] at k2 h0 ⊢
      obtain ⟨p, p1, p2, p3, p4, p5⟩ := right_of_chk n y cb (deep + 1) (m + 1 + q.size) hr2 k2 q4
      rcases hk' with rfl | rfl
      · obtain rfl := hno 4 rfl (by decide)
        refine ⟨.cat q p, ⟨_, cap, ca, cb, rfl, h4, h5, ⟨ad, rfl, hb, hc⟩, ⟨ad, rfl, hb, hc2⟩, q1, p1⟩, ⟨q2, p2⟩, ?_, ?_, ?_⟩
        · simp only [chkL, Re.size]; rw [p3]; omega
        · simp only [Re.size]; omega
        · simp only [Re.deep]; omega
      · obtain rfl := hno 5 rfl (by decide)
        refine ⟨.alt q p, ⟨_, cap, ca, cb, rfl, h4, h5, ⟨ad, rfl, hb, hc⟩, ⟨ad, rfl, hb, hc2⟩, q1, p1⟩, ⟨q2, p2⟩, ?_, ?_, ?_⟩
        · simp only [chkL, Re.size]; rw [p3]; omega
        · simp only [Re.size]; omega
        · simp only [Re.deep]; omega
    · exfalso
      have := wantK_3 k
      simp at hw
      omega

theorem u64_nat {n : Int} (h : (Lit.int .u64 n).wf = true) : ∃ m : Nat, n = (m : Int) ∧ m < 18446744073709551616 := by
  have hw := bounds_u64 h
  exact ⟨n.toNat, by omega, by omega⟩
theorem len6 {α : Type} {l : List α} (h : l.length = 6) : ∃ a b c d e f, l = [a, b, c, d, e, f] := by
  match l, h with
  | [a, b, c, d, e, f], _ => exact ⟨a, b, c, d, e, f, rfl⟩
theorem len3 {α : Type} {l : List α} (h : l.length = 3) : ∃ a b c, l = [a, b, c] := by
  match l, h with
  | [a, b, c], _ => exact ⟨a, b, c, rfl⟩
/-- a struct of three fields, of one, four and one cells -/
theorem open_struct141 {H : Type} {enc : TypeId × Value → H} {P : Program} {w : World} {base : Nat} {spare : Nat → Bool} {held : Bool} {t : TypeId} {f0 f1 f2 : Field} {fuel : Nat} {cs : List Value} {x : DataW H × List MemPlace}
    (hs : P.underlying t = some (.struct #[f0, f1, f2])) (hC : P.cellsOf t = 6) (k0 : P.cellsOf f0.type = 1) (o0 : f0.offset = 0) (k1 : P.cellsOf f1.type = 4) (o1 : f1.offset = 1) (k2 : P.cellsOf f2.type = 1) (o2 : f2.offset = 5)
    (h : DataW.trod enc P w base spare held fuel t cs = some x) :
    ∃ c0 c1 c2 c3 c4 c5 y0 y1 y2 n, fuel = n + 1 ∧ cs = [c0, c1, c2, c3, c4, c5] ∧ DataW.trod enc P w base spare held n f0.type [c0] = some y0 ∧ DataW.trod enc P w base spare held n f1.type [c1, c2, c3, c4] = some y1 ∧ DataW.trod enc P w base spare held n f2.type [c5] = some y2 := by
  obtain ⟨xs, n, rfl, _, hl, hxs, hg⟩ := DataW.trod_struct hs h
  obtain ⟨c0, c1, c2, c3, c4, c5, rfl⟩ := len6 (hl.trans hC)
  obtain ⟨y0, y1, y2, rfl⟩ := len3 hxs
  exact ⟨c0, c1, c2, c3, c4, c5, y0, y1, y2, n, rfl, rfl, by simpa [o0, k0] using hg 0 f0 rfl, by simpa [o1, k1] using hg 1 f1 rfl, by simpa [o2, k2] using hg 2 f2 rfl⟩
/-- an expression that came in -/
theorem open_rex {H : Type} {enc : TypeId × Value → H} {W : World} : ∀ (n : Nat) (cs : List Value) (x : DataW H × List MemPlace), DataW.trod enc Try.prog W 0 (fun _ => true) true n 27 cs = some x → ∃ r, RxC W W.heap.size n r cs := by
  intro n
  induction n using Nat.strongRecOn with
  | ind n ih =>
    intro cs x h
    obtain ⟨c0, c1, c2, c3, c4, c5, y0, y1, y2, m, rfl, rfl, g0, g1, g2⟩ := open_struct141 Try.underlying27 (by kernel_rfl) (by kernel_rfl) rfl (by kernel_rfl) rfl (by kernel_rfl) rfl h
    obtain ⟨k, e0, _, hk⟩ := DataW.trod_int Try.underlying3 g0
    obtain ⟨z0, z1, z2, z3, m1, _, a0, a1, a2, a3⟩ := trod_array4 Try.underlying24 (by kernel_rfl) g1
    obtain ⟨b0, f0, _, hb0⟩ := DataW.trod_int Try.underlying22 a0
    obtain ⟨b1, f1, _, hb1⟩ := DataW.trod_int Try.underlying22 a1
    obtain ⟨b2, f2, _, hb2⟩ := DataW.trod_int Try.underlying22 a2
    obtain ⟨b3, f3, _, hb3⟩ := DataW.trod_int Try.underlying22 a3
    simp only [List.cons.injEq, and_true] at e0 f0 f1 f2 f3
    subst e0; subst f0; subst f1; subst f2; subst f3
    obtain ⟨n0, rfl, hn0⟩ := u64_nat hb0
    obtain ⟨n1, rfl, hn1⟩ := u64_nat hb1
    obtain ⟨n2, rfl, hn2⟩ := u64_nat hb2
    obtain ⟨n3, rfl, hn3⟩ := u64_nat hb3
    have hk' := bounds_i64 hk
    rcases DataW.trod_slice Try.underlying25 g2 with ⟨e5, _⟩ | ⟨a, len, cap, elems, rest, k', rfl, e5, _, hb, hl, hm, hlen, hel, hsp, hns⟩
    · simp only [List.cons.injEq, and_true] at e5
      subst e5
      exact ⟨.mk k ⟨n0, n1, n2, n3⟩ [], ⟨hn0, hn1, hn2, hn3⟩, hk', none, 0, rfl, Nat.le_refl _, by omega, fun h => absurd h (by simp [Rx.ks]), fun i x h => by simp [Rx.ks] at h⟩
    · simp only [List.cons.injEq, and_true] at e5
      subst e5
      have kk : Try.prog.cellsOf 27 = 6 := by kernel_rfl
      rw [kk] at hel
      have hone : ∀ i, i < len → ∃ cs' r, W.cells? 0 (a.add (i * 6)) 6 = some cs' ∧ RxC W W.heap.size (k' + 1) r cs' := by
        intro i hi
        have h1 : (W.cells? 0 (a.add (i * 6)) 6).bind (DataW.trod enc Try.prog W 0 (fun _ => true) true k' 27) = elems[i]? := hel i hi
        rw [List.getElem?_eq_getElem (by omega)] at h1
        obtain ⟨cs', h2, h3⟩ := Option.bind_eq_some_iff.1 h1
        obtain ⟨r, hr⟩ := ih (k' + 1) (by omega) cs' _ (DataW.trod_succ _ _ _ _ h3)
        exact ⟨cs', r, h2, hr⟩
      obtain ⟨rs, hrs, hall⟩ := list_of_lt hone
      unfold maxLen at hm
      refine ⟨.mk k ⟨n0, n1, n2, n3⟩ rs, ⟨hn0, hn1, hn2, hn3⟩, hk', some a, cap, by simp only [Rx.ks, hrs]; rfl, by simp only [Rx.ks]; omega, by omega, fun h => ?_, fun i x h => ?_⟩
      · simp only [Rx.ks] at h
        obtain ⟨cs', _, h2, _⟩ := hone 0 (by omega)
        obtain ⟨_, h3, h4⟩ := World.cells?_some h2
        have h5 := h4 0 (by omega)
        rw [List.getElem?_eq_getElem (by omega)] at h5
        exact ⟨a, rfl, by have := World.block_lt_of_cell? _ _ h5; rwa [block_of_add, block_of_add] at this⟩
      · simp only [Rx.ks] at h
        obtain ⟨hi, rfl⟩ := List.getElem?_eq_some_iff.1 h
        obtain ⟨cs', h2, h3⟩ := hall i hi
        obtain ⟨_, h4, h5⟩ := World.cells?_some h2
        refine ⟨a, cs', rfl, fun j u hu => ?_, h3⟩
        obtain ⟨hj, _⟩ := List.getElem?_eq_some_iff.1 hu
        rw [← add_of_add, h5 j (by omega), hu]
end Go.Proofs.Ytkdcgkdbieeijaa
