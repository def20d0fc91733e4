/- Running instructions (P20), plainly: what is come to, spans, the threads at a place. -/
import Derived.Test.YtckinkapbfaceaaCodA
import Derived.Test.YtckinkapbfaceaaSp
import Derived.Test.YtckinkapbfaceaaEndC
namespace Go.Proofs.Ytckinkapbfaceaa
set_option linter.unusedVariables false

def There (n : Nat) (k : Int) : Prop := 0 ≤ k ∧ k < (n : Int)
/-- the instruction x at i of n is right -/
def RightI (n i : Nat) (x : In) : Prop :=
  (x.k = 2 ∧ There n x.a ∧ There n x.b) ∨ (x.k = 3 ∧ There n x.a) ∨ ((x.k = 1 ∨ x.k = 4 ∨ x.k = 5) ∧ i + 1 < n) ∨ x.k = 6
def RightP (l : List In) : Prop := ∀ i x, l[i]? = some x → RightI l.length i x
open Classical in
noncomputable def errP (l : List In) : Int := if 400 < l.length then 2 else if l.length = 0 then 1 else if RightP l then 0 else 1

/-- a step without a byte, at the place a of a text of m bytes -/
def Eps (l : List In) (m a p q : Nat) : Prop := ∃ x, l[p]? = some x ∧ ((x.k = 2 ∧ ((q : Int) = x.a ∨ (q : Int) = x.b)) ∨ (x.k = 3 ∧ (q : Int) = x.a) ∨ (x.k = 4 ∧ a = 0 ∧ q = p + 1) ∨ (x.k = 5 ∧ a = m ∧ q = p + 1))
/-- a step by the byte at a -/
def Byt (l : List In) (s : List UInt8) (a p q : Nat) : Prop := ∃ x, l[p]? = some x ∧ x.k = 1 ∧ (∃ h : a < s.length, setB x.s s[a].toNat = true) ∧ q = p + 1
/-- from i on: the instruction p is come to at the place a -/
inductive Rch (l : List In) (s : List UInt8) (i : Nat) : Nat → Nat → Prop where
  | start : Rch l s i i 0
  | eps {a p q : Nat} : Rch l s i a p → Eps l s.length a p q → Rch l s i a q
  | byt {a p q : Nat} : Rch l s i a p → Byt l s a p q → Rch l s i (a + 1) q
def Mat (l : List In) (p : Nat) : Prop := ∃ x, l[p]? = some x ∧ x.k = 6
def SpanP (l : List In) (s : List UInt8) (i j : Nat) : Prop := j ≤ s.length ∧ ∃ p, Mat l p ∧ Rch l s i j p
theorem Rch.le {l : List In} {s : List UInt8} {i a p : Nat} (h : Rch l s i a p) : i ≤ a := by
  induction h with
  | start => exact Nat.le_refl _
  | eps _ _ ih => exact ih
  | byt _ _ ih => omega
theorem SpanP.le {l : List In} {s : List UInt8} {i j : Nat} (h : SpanP l s i j) : i ≤ j := by
  obtain ⟨_, p, _, h⟩ := h
  exact h.le
theorem eps_lt {l : List In} {m a p q : Nat} (hr : RightP l) (h : Eps l m a p q) : q < l.length := by
  obtain ⟨x, hx, h⟩ := h
  have := hr p x hx
  unfold RightI There at this
  rcases h with ⟨h1, h2⟩ | ⟨h1, h2⟩ | ⟨h1, _, h2⟩ | ⟨h1, _, h2⟩ <;> rcases this with ⟨k1, k2, k3⟩ | ⟨k1, k2⟩ | ⟨k1, k2⟩ | k1 <;> omega
theorem byt_lt {l : List In} {s : List UInt8} {a p q : Nat} (hr : RightP l) (h : Byt l s a p q) : q < l.length := by
  obtain ⟨x, hx, h1, _, h2⟩ := h
  have := hr p x hx
  unfold RightI There at this
  rcases this with ⟨k1, k2, k3⟩ | ⟨k1, k2⟩ | ⟨k1, k2⟩ | k1 <;> omega
theorem Rch.lt {l : List In} {s : List UInt8} {i a p : Nat} (hr : RightP l) (h0 : 0 < l.length) (h : Rch l s i a p) : p < l.length := by
  cases h with
  | start => exact h0
  | eps _ h => exact eps_lt hr h
  | byt _ h => exact byt_lt hr h
theorem Rch.star {l : List In} {s : List UInt8} {i a p q : Nat} (h : Rch l s i a p) (k : Star (Eps l s.length a) p q) : Rch l s i a q := by
  induction k with
  | refl => exact h
  | step e _ ih => exact ih (h.eps e)
/-- where the steps without a byte go -/
def suc (l : List In) (m a t : Nat) : List Nat :=
  match l[t]? with
  | none => []
  | some x => if x.k = 2 then [x.b.toNat, x.a.toNat] else if x.k = 3 then [x.a.toNat] else if (x.k = 4 ∧ a = 0) ∨ (x.k = 5 ∧ a = m) then [t + 1] else []
theorem suc_iff {l : List In} {m a t q : Nat} (hr : RightP l) : q ∈ suc l m a t ↔ Eps l m a t q := by
  unfold suc Eps
  cases hx : l[t]? with
  | none => simp
  | some x =>
    have := hr t x hx
    unfold RightI There at this
    simp only [Option.some.injEq]
    by_cases h2 : x.k = 2
    · rw [if_pos h2]
      simp only [List.mem_cons, List.not_mem_nil, or_false]
      constructor
      · intro h; exact ⟨x, rfl, by omega⟩
      · rintro ⟨y, rfl, h⟩; omega
    · rw [if_neg h2]
      by_cases h3 : x.k = 3
      · rw [if_pos h3]
        simp only [List.mem_cons, List.not_mem_nil, or_false]
        constructor
        · intro h; exact ⟨x, rfl, by omega⟩
        · rintro ⟨y, rfl, h⟩; omega
      · rw [if_neg h3]
        by_cases h4 : (x.k = 4 ∧ a = 0) ∨ (x.k = 5 ∧ a = m)
        · rw [if_pos h4]
          simp only [List.mem_cons, List.not_mem_nil, or_false]
          constructor
          · intro h; exact ⟨x, rfl, by omega⟩
          · rintro ⟨y, rfl, h⟩; omega
        · rw [if_neg h4]
          simp only [List.not_mem_nil, false_iff]
          rintro ⟨y, rfl, h⟩; omega
theorem suc_len (l : List In) (m a t : Nat) : (suc l m a t).length ≤ 2 := by
  unfold suc
  cases l[t]? with
  | none => simp
  | some x =>
    dsimp only
    split
    · simp
    · split
      · simp
      · split <;> simp

def put (F : Nat → Nat) (t v : Nat) : Nat → Nat := fun j => if j = t then v else F j
theorem put_same (F : Nat → Nat) (t v : Nat) : put F t v t = v := if_pos rfl
theorem put_other {F : Nat → Nat} {t v j : Nat} (h : j ≠ t) : put F t v j = F j := if_neg h
/-- how many are not yet come to -/
def unm (F : Nat → Nat) (n : Nat) : Nat := cntF (fun p => decide (1 ≤ F p)) n
theorem unm_put {F : Nat → Nat} {t v n : Nat} (h : F t = 0) (hv : 1 ≤ v) (ht : t < n) : unm (put F t v) n + 1 = unm F n := by
  unfold unm
  induction n with
  | zero => omega
  | succ n ih =>
    unfold cntF
    by_cases e : t = n
    · subst e
      have hc : ∀ k, k ≤ t → cntF (fun p => decide (1 ≤ put F t v p)) k = cntF (fun p => decide (1 ≤ F p)) k := by
        intro k hk
        induction k with
        | zero => rfl
        | succ k ih => unfold cntF; rw [ih (by omega), put_other (by omega)]
      rw [hc t (Nat.le_refl _), put_same, decide_eq_true hv, if_pos rfl, h, if_neg (by simp)]
    · have := ih (by omega)
      rw [put_other (by omega : n ≠ t)]
      omega

/-- (*threads).add under way: F, L the threads; T what is to do; v the mark -/
structure AddSt (l : List In) (m a n v : Nat) (F0 : Nat → Nat) (L0 : List Nat) (F : Nat → Nat) (L T : List Nat) : Prop where
  old : ∀ p, 1 ≤ F0 p → F p = F0 p
  new : ∀ p, F0 p = 0 → 1 ≤ F p → F p = v ∧ Star (Eps l m a) n p ∧ p < l.length
  lst : ∃ D, L = L0 ++ D ∧ ∀ p, p ∈ D ↔ (F0 p = 0 ∧ 1 ≤ F p)
  clo : ∀ p q, 1 ≤ F p → Eps l m a p q → (1 ≤ F q ∧ F q ≤ F p) ∨ (q ∈ T ∧ F p = v)
  todo : ∀ q, q ∈ T → Star (Eps l m a) n q ∧ q < l.length
  hd : 1 ≤ F n ∨ n ∈ T
  le : ∀ p, F p ≤ v
def Clo (l : List In) (m a : Nat) (F : Nat → Nat) : Prop := ∀ p q, 1 ≤ F p → Eps l m a p q → 1 ≤ F q ∧ F q ≤ F p
section
variable {l : List In} {m a n v : Nat} {F0 F : Nat → Nat} {L0 L T : List Nat} {t : Nat}
theorem AddSt.start (hn : n < l.length) (hc : Clo l m a F0) (hle : ∀ p, F0 p ≤ v) : AddSt l m a n v F0 L0 F0 L0 [n] :=
  ⟨fun _ _ => rfl, fun p h h' => absurd h' (by omega), ⟨[], by simp, fun p => ⟨fun h => absurd h (by simp), fun h => absurd h.2 (by omega)⟩⟩, fun p q h e => .inl (hc p q h e),
    fun q h => by rw [List.mem_singleton] at h; subst h; exact ⟨.refl _, hn⟩, .inr (by simp), hle⟩
theorem AddSt.skip (h : AddSt l m a n v F0 L0 F L (T ++ [t])) (ht : 1 ≤ F t) : AddSt l m a n v F0 L0 F L T := by
  refine ⟨h.old, h.new, h.lst, fun p q hp e => ?_, fun q hq => h.todo q (List.mem_append_left _ hq), ?_, h.le⟩
  · rcases h.clo p q hp e with h1 | ⟨h1, h2⟩
    · exact .inl h1
    · rcases List.mem_append.1 h1 with h1 | h1
      · exact .inr ⟨h1, h2⟩
      · rw [List.mem_singleton] at h1; subst h1; exact .inl ⟨ht, by rw [h2]; exact h.le _⟩
  · rcases h.hd with h1 | h1
    · exact .inl h1
    · rcases List.mem_append.1 h1 with h1 | h1
      · exact .inr h1
      · rw [List.mem_singleton] at h1; subst h1; exact .inl ht
theorem AddSt.mark (hr : RightP l) (hv : 1 ≤ v) (h : AddSt l m a n v F0 L0 F L (T ++ [t])) (ht : F t = 0) : AddSt l m a n v F0 L0 (put F t v) (L ++ [t]) (T ++ suc l m a t) := by
  have h0 : F0 t = 0 := by
    rcases Nat.eq_zero_or_pos (F0 t) with e | e
    · exact e
    · have := h.old t e; omega
  obtain ⟨hst, hlt⟩ := h.todo t (List.mem_append_right _ (by simp))
  refine ⟨fun p hp => ?_, fun p h1 h2 => ?_, ?_, fun p q hp e => ?_, fun q hq => ?_, ?_, fun p => ?_⟩
  · rw [put_other (fun e => by subst e; omega)]; exact h.old p hp
  · by_cases e : p = t
    · subst e; exact ⟨put_same _ _ _, hst, hlt⟩
    · rw [put_other e] at h2 ⊢; exact h.new p h1 h2
  · obtain ⟨D, rfl, hD⟩ := h.lst
    refine ⟨D ++ [t], by rw [List.append_assoc], fun p => ?_⟩
    rw [List.mem_append, List.mem_singleton, hD]
    by_cases e : p = t
    · subst e; rw [put_same]; simp only [or_true, true_iff]; exact ⟨h0, hv⟩
    · rw [put_other e]; simp only [e, or_false]
  · by_cases ep : p = t
    · subst ep
      exact .inr ⟨List.mem_append_right _ ((suc_iff hr).2 e), put_same _ _ _⟩
    · rw [put_other ep] at hp ⊢
      by_cases eq : q = t
      · subst eq
        rw [put_same]
        rcases h.clo p q hp e with h1 | ⟨h1, h2⟩
        · omega
        · exact .inl ⟨hv, by omega⟩
      · rw [put_other eq]
        rcases h.clo p q hp e with h1 | ⟨h1, h2⟩
        · exact .inl h1
        · rcases List.mem_append.1 h1 with h1 | h1
          · exact .inr ⟨List.mem_append_left _ h1, h2⟩
          · rw [List.mem_singleton] at h1; exact absurd h1 eq
  · rcases List.mem_append.1 hq with h1 | h1
    · exact h.todo q (List.mem_append_left _ h1)
    · have e := (suc_iff hr).1 h1
      exact ⟨hst.snoc e, eps_lt hr e⟩
  · by_cases e : n = t
    · subst e; rw [put_same]; exact .inl hv
    · rw [put_other e]
      rcases h.hd with h1 | h1
      · exact .inl h1
      · rcases List.mem_append.1 h1 with h1 | h1
        · exact .inr (List.mem_append_left _ h1)
        · rw [List.mem_singleton] at h1; exact absurd h1 e
  · by_cases e : p = t
    · subst e; rw [put_same]; exact Nat.le_refl _
    · rw [put_other e]; exact h.le p
end
end Go.Proofs.Ytckinkapbfaceaa
