/- How a body in chunks is read (P27), plainly. -/
import Derived.Test.YtkcncgdgicffhaaDoorGa
namespace Go.Proofs.YtkcncgdgicffhaaDoor
open Go.RowKit
set_option linter.unusedVariables false
set_option linter.unusedSimpArgs false

def isHx (b : UInt8) : Bool := decide (0 ≤ hexv b.toNat)
/-- so many digits stand at the front, at the most seven -/
def runN (l : List UInt8) : Nat := ((l.take 7).takeWhile isHx).length
/-- a line's end at the front: what is wrong -/
def nlE : List UInt8 → Int
  | [] => 7
  | [b] => if b = 13 then 7 else 4
  | b :: c :: _ => if b = 13 then (if c = 10 then 0 else 4) else 4
/-- one chunk: the error, the size, the place behind it -/
def stepC (l : List UInt8) (most : Int) (at_ o : Nat) : Int × Nat × Nat :=
  let k := runN (l.drop at_)
  let n := (numv 16 ((l.drop at_).take k)).toNat
  if k = 0 then (if l.length ≤ at_ then 7 else 4, 0, 0)
  else if nlE (l.drop (at_ + k)) ≠ 0 then (nlE (l.drop (at_ + k)), 0, 0)
  else if most.toNat < n + o then (6, 0, 0)
  else if l.length < at_ + k + 2 + n then (7, 0, 0)
  else if nlE (l.drop (at_ + k + 2 + n)) ≠ 0 then (nlE (l.drop (at_ + k + 2 + n)), 0, 0)
  else (0, n, at_ + k + 2 + n + 2)
def chkF (l : List UInt8) (most : Int) : Nat → Nat → List UInt8 → List UInt8 × Nat × Int
  | 0, _, _ => ([], 0, 0)
  | f + 1, a, out =>
    if (stepC l most a out.length).1 ≠ 0 then ([], 0, (stepC l most a out.length).1)
    else if (stepC l most a out.length).2.1 = 0 then (out, (stepC l most a out.length).2.2, 0)
    else chkF l most f (stepC l most a out.length).2.2 (out ++ (l.drop ((stepC l most a out.length).2.2 - 2 - (stepC l most a out.length).2.1)).take (stepC l most a out.length).2.1)
/-- the body, how many bytes it takes, the error -/
def chkR (l : List UInt8) (most : Int) : List UInt8 × Nat × Int := chkF l most (l.length + 1) 0 []

theorem runN_le (l : List UInt8) : runN l ≤ 7 ∧ runN l ≤ l.length := by
  have h : runN l ≤ (l.take 7).length := (List.takeWhile_sublist _).length_le
  rw [List.length_take] at h; omega
theorem tw_eq {p : UInt8 → Bool} : ∀ (l : List UInt8) (k : Nat) (hk : k ≤ l.length), (∀ j (hj : j < l.length), j < k → p l[j] = true) → (∀ hj : k < l.length, p l[k] = false) → (l.takeWhile p).length = k
  | [], k, hk, _, _ => by simp at hk; simp [hk]
  | x :: l, 0, _, _, h => by
    have := h (by simp)
    simp only [List.getElem_cons_zero] at this
    simp [List.takeWhile, this]
  | x :: l, k + 1, hk, h, h2 => by
    have h0 := h 0 (by simp) (by omega)
    simp only [List.getElem_cons_zero] at h0
    rw [List.takeWhile_cons_of_pos h0, List.length_cons, tw_eq l k (by simpa using hk) (fun j hj hjk => h (j + 1) (Nat.succ_lt_succ hj) (Nat.succ_lt_succ hjk)) (fun hj => h2 (Nat.succ_lt_succ hj))]
theorem digs_all {l : List UInt8} : digs 16 l = true ↔ ∀ b ∈ l, isHx b = true := by
  unfold digs isHx
  rw [List.all_eq_true]
  constructor
  · intro h b hb
    have := h b hb
    simp only [Bool.and_eq_true] at this; exact this.1
  · intro h b hb
    have := h b hb
    have h2 := hexv_le (b.toNat : Int)
    simp only [Bool.and_eq_true]
    exact ⟨this, decide_eq_true (by omega)⟩
/-- where a reader of digits stops -/
theorem run_eq {s : ByteArray} {a k : Nat} (h7 : k ≤ 7) (hk : a + k ≤ s.size) (hd : digs 16 ((s.data.toList.drop a).take k) = true) (hn : k = 7 ∨ s.size ≤ a + k ∨ ∃ h : a + k < s.size, hexv s[a + k].toNat < 0) : runN (s.data.toList.drop a) = k := by
  rw [digs_all] at hd
  unfold runN
  refine tw_eq _ k (by simp only [List.length_take, List.length_drop, lst_len]; omega) (fun j hj hjk => ?_) (fun hj => ?_)
  · refine hd _ ?_
    rw [List.getElem_take]
    rw [List.mem_take_iff_getElem]
    simp only [List.length_take, List.length_drop, lst_len] at hj
    exact ⟨j, by rw [List.length_drop, lst_len]; omega, rfl⟩
  · simp only [List.length_take, List.length_drop, lst_len] at hj
    rcases hn with h | h | ⟨h, h2⟩
    · omega
    · omega
    · rw [List.getElem_take, List.getElem_drop, lst_get s _ h]
      unfold isHx
      exact decide_eq_false (by omega)
theorem run_digs (l : List UInt8) : digs 16 (l.take (runN l)) = true := by
  rw [digs_all]
  intro b hb
  have h : l.take (runN l) = (l.take 7).takeWhile isHx := by
    have h1 := List.prefix_iff_eq_take.1 (List.takeWhile_prefix isHx (l := l.take 7))
    have h2 : (l.take 7).take (runN l) = (l.take 7).takeWhile isHx := h1.symm
    rw [← h2, List.take_take, Nat.min_eq_left (runN_le l).1]
  rw [h] at hb
  have := List.all_takeWhile (p := isHx) (l := l.take 7)
  rw [List.all_eq_true] at this
  exact this b hb
theorem chk_n (l : List UInt8) : 0 ≤ numv 16 (l.take (runN l)) ∧ numv 16 (l.take (runN l)) < 268435456 := by
  obtain ⟨h1, h2⟩ := numv_bd (base := 16) (by decide) (by decide) _ (run_digs l)
  have h3 : (l.take (runN l)).length ≤ 7 := by rw [List.length_take]; have := runN_le l; omega
  have h4 : 16 ^ (l.take (runN l)).length ≤ 16 ^ 7 := Nat.pow_le_pow_right (by decide) h3
  have h5 : 16 ^ 7 = 268435456 := by decide
  omega
/-- a line's end by its bytes -/
theorem nl_none {s : ByteArray} {a : Nat} (h : s.size ≤ a) : nlE (s.data.toList.drop a) = 7 := by rw [drop_all s h]; rfl
theorem nl_cr {s : ByteArray} {a : Nat} (h : a < s.size) (h1 : ¬ s[a] = 13) : nlE (s.data.toList.drop a) = 4 := by
  rw [drop_cons s a h]
  match s.data.toList.drop (a + 1) with
  | [] => simp [nlE, h1]
  | c :: _ => simp [nlE, h1]
theorem nl_one {s : ByteArray} {a : Nat} (h : a < s.size) (h1 : s[a] = 13) (h2 : s.size ≤ a + 1) : nlE (s.data.toList.drop a) = 7 := by
  rw [drop_cons s a h, drop_all s h2]; simp [nlE, h1]
theorem nl_lf {s : ByteArray} {a : Nat} (h : a + 1 < s.size) (h1 : s[a] = 13) (h2 : ¬ s[a + 1] = 10) : nlE (s.data.toList.drop a) = 4 := by
  rw [drop_cons s a (by omega), drop_cons s (a + 1) h]; simp [nlE, h1, h2]
theorem nl_ok {s : ByteArray} {a : Nat} (h : a + 1 < s.size) (h1 : s[a] = 13) (h2 : s[a + 1] = 10) : nlE (s.data.toList.drop a) = 0 := by
  rw [drop_cons s a (by omega), drop_cons s (a + 1) h]; simp [nlE, h1, h2]
theorem nl_fit {s : ByteArray} {a : Nat} (h : nlE (s.data.toList.drop a) = 0) : a + 2 ≤ s.size := by
  by_cases h1 : a < s.size
  · by_cases h2 : a + 1 < s.size
    · omega
    · rw [drop_cons s a h1, drop_all s (by omega)] at h
      simp only [nlE] at h; split at h <;> omega
  · rw [drop_all s (by omega)] at h; simp [nlE] at h

section
variable {s : ByteArray} {most : Int} {a o k n : Nat}
theorem step_nodig (hk : runN (s.data.toList.drop a) = 0) (e : Int) (he : e = if s.size ≤ a then 7 else 4) : stepC s.data.toList most a o = (e, 0, 0) := by
  unfold stepC; rw [hk, if_pos rfl, lst_len, he]
theorem step_line (hk : runN (s.data.toList.drop a) = k) (h0 : 0 < k) (h1 : ¬ nlE (s.data.toList.drop (a + k)) = 0) : stepC s.data.toList most a o = (nlE (s.data.toList.drop (a + k)), 0, 0) := by
  unfold stepC; rw [hk, if_neg (by omega), if_pos h1]
theorem step_body (hk : runN (s.data.toList.drop a) = k) (h0 : 0 < k) (h1 : nlE (s.data.toList.drop (a + k)) = 0) (hn : numv 16 ((s.data.toList.drop a).take k) = n) (h2 : most.toNat < n + o) : stepC s.data.toList most a o = (6, 0, 0) := by
  unfold stepC; rw [hk, if_neg (by omega), if_neg (by simp [h1]), hn]; simp [h2]
theorem step_more (hk : runN (s.data.toList.drop a) = k) (h0 : 0 < k) (h1 : nlE (s.data.toList.drop (a + k)) = 0) (hn : numv 16 ((s.data.toList.drop a).take k) = n) (h2 : n + o ≤ most.toNat) (h3 : s.size < a + k + 2 + n) : stepC s.data.toList most a o = (7, 0, 0) := by
  unfold stepC; rw [hk, if_neg (by omega), if_neg (by simp [h1]), hn, lst_len]; simp only [Int.toNat_natCast]
  rw [if_neg (by omega), if_pos h3]
theorem step_end (hk : runN (s.data.toList.drop a) = k) (h0 : 0 < k) (h1 : nlE (s.data.toList.drop (a + k)) = 0) (hn : numv 16 ((s.data.toList.drop a).take k) = n) (h2 : n + o ≤ most.toNat) (h3 : a + k + 2 + n ≤ s.size) (h4 : ¬ nlE (s.data.toList.drop (a + k + 2 + n)) = 0) : stepC s.data.toList most a o = (nlE (s.data.toList.drop (a + k + 2 + n)), 0, 0) := by
  unfold stepC; rw [hk, if_neg (by omega), if_neg (by simp [h1]), hn, lst_len]; simp only [Int.toNat_natCast]
  rw [if_neg (by omega), if_neg (by omega), if_pos h4]
theorem step_ok (hk : runN (s.data.toList.drop a) = k) (h0 : 0 < k) (h1 : nlE (s.data.toList.drop (a + k)) = 0) (hn : numv 16 ((s.data.toList.drop a).take k) = n) (h2 : n + o ≤ most.toNat) (h3 : a + k + 2 + n ≤ s.size) (h4 : nlE (s.data.toList.drop (a + k + 2 + n)) = 0) : stepC s.data.toList most a o = (0, n, a + k + 2 + n + 2) := by
  unfold stepC; rw [hk, if_neg (by omega), if_neg (by simp [h1]), hn, lst_len]; simp only [Int.toNat_natCast]
  rw [if_neg (by omega), if_neg (by omega), if_neg (by simp [h4])]
end
/-- a chunk that is there: its number, where it ends -/
theorem step_fit {s : ByteArray} {most : Int} {a o n b : Nat} (h : stepC s.data.toList most a o = (0, n, b)) : a + n + 4 < b ∧ b ≤ s.size ∧ n + o ≤ most.toNat ∧ n < 268435456 := by
  have hr := runN_le (s.data.toList.drop a)
  have hn := chk_n (s.data.toList.drop a)
  unfold stepC at h
  dsimp only at h
  split at h
  · split at h <;> simp at h
  · split at h
    · next h1 => simp only [Prod.mk.injEq] at h; exact absurd h.1 h1
    · split at h
      · simp at h
      · split at h
        · simp at h
        · split at h
          · next h1 => simp only [Prod.mk.injEq] at h; exact absurd h.1 h1
          · next h1 h2 h3 h4 =>
            simp only [Prod.mk.injEq] at h
            have := nl_fit (s := s) (Decidable.not_not.1 h4)
            omega
section
variable {l : List UInt8} {most : Int} {f a n b : Nat} {out : List UInt8} {e : Int}
theorem chkF_bad {n b : Nat} (h : stepC l most a out.length = (e, n, b)) (he : ¬ e = 0) : chkF l most (f + 1) a out = ([], 0, e) := by
  unfold chkF; rw [h, if_pos he]
theorem chkF_done (h : stepC l most a out.length = (0, 0, b)) : chkF l most (f + 1) a out = (out, b, 0) := by
  unfold chkF; rw [h, if_neg (by simp), if_pos rfl]
theorem chkF_step (h : stepC l most a out.length = (0, n, b)) (hn : 0 < n) : chkF l most (f + 1) a out = chkF l most f b (out ++ (l.drop (b - 2 - n)).take n) := by
  rw [chkF, h, if_neg (by simp), if_neg (by simp; omega)]
end
theorem chkF_bd {s : ByteArray} {most : Int} : ∀ (f a : Nat) (out : List UInt8), a ≤ s.size → out.length ≤ a → (out.length : Int) ≤ max most 0 →
    (chkF s.data.toList most f a out).1.length ≤ s.size ∧ (chkF s.data.toList most f a out).2.1 ≤ s.size ∧ ((chkF s.data.toList most f a out).1.length : Int) ≤ max most 0
  | 0, a, out, h, h2, h3 => by simp [chkF]; omega
  | f + 1, a, out, h, h2, h3 => by
    obtain ⟨e, n, b, hs⟩ : ∃ e n b, stepC s.data.toList most a out.length = (e, n, b) := ⟨_, _, _, rfl⟩
    by_cases he : e = 0
    · subst he
      have hf := step_fit hs
      by_cases hn : n = 0
      · subst hn
        rw [chkF_done hs]
        exact ⟨by simp only []; omega, by simp only []; omega, by simp only []; omega⟩
      · rw [chkF_step hs (by omega)]
        have hl : (out ++ (s.data.toList.drop (b - 2 - n)).take n).length = out.length + n := by
          rw [List.length_append, List.length_take, List.length_drop, lst_len]; omega
        exact chkF_bd f b _ (by omega) (by rw [hl]; omega) (by rw [hl]; omega)
    · rw [chkF_bad hs he]; simp; omega
theorem chkR_bd (s : ByteArray) (most : Int) : (chkR s.data.toList most).1.length ≤ s.size ∧ (chkR s.data.toList most).2.1 ≤ s.size ∧ ((chkR s.data.toList most).1.length : Int) ≤ max most 0 :=
  chkF_bd _ 0 [] (by omega) (by simp) (by simp; omega)
end Go.Proofs.YtkcncgdgicffhaaDoor
