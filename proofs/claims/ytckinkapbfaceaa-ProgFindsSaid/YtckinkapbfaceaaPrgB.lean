/- Running instructions (P20), plainly: the best span so far, place by place. -/
import Derived.Test.YtckinkapbfaceaaPrgA
namespace Go.Proofs.Ytckinkapbfaceaa
set_option linter.unusedVariables false

/-- R's first span, and the longest of those; none: 0, 0 -/
def FirstR (R : Nat → Nat → Prop) (i j : Nat) (b : Bool) : Prop :=
  (b = true ∧ R i j ∧ (∀ i' j', i' < i → ¬ R i' j') ∧ ∀ j', R i j' → j' ≤ j) ∨ (b = false ∧ i = 0 ∧ j = 0 ∧ ∀ i' j', ¬ R i' j')
theorem FirstR.same {R : Nat → Nat → Prop} {i j i' j' : Nat} {b b' : Bool} (h : FirstR R i j b) (h' : FirstR R i' j' b') : i = i' ∧ j = j' ∧ b = b' := by
  rcases h with ⟨rfl, h1, h2, h3⟩ | ⟨rfl, rfl, rfl, h1⟩ <;> rcases h' with ⟨rfl, k1, k2, k3⟩ | ⟨rfl, rfl, rfl, k1⟩
  · have hi : i = i' := by
      rcases Nat.lt_trichotomy i i' with h | h | h
      · exact absurd h1 (k2 _ _ h)
      · exact h
      · exact absurd k1 (h2 _ _ h)
    subst hi
    exact ⟨rfl, Nat.le_antisymm (k3 _ h1) (h3 _ k1), rfl⟩
  · exact absurd h1 (k1 _ _)
  · exact absurd k1 (h1 _ _)
  · exact ⟨rfl, rfl, rfl⟩

/-- the starts that still count -/
def GB (fd : Bool) (f bd i : Nat) : Prop := (fd = true → i ≤ f) ∧ (fd = false → i < bd)
/-- the threads at a place -/
structure PlSt (l : List In) (s : List UInt8) (a : Nat) (G : Nat → Prop) (F : Nat → Nat) (L : List Nat) : Prop where
  sound : ∀ p, 1 ≤ F p → Rch l s (F p - 1) a p
  full : ∀ i p, G i → Rch l s i a p → 1 ≤ F p ∧ F p ≤ i + 1
  clo : Clo l s.length a F
  lst : ∀ p, p ∈ L ↔ 1 ≤ F p
  srt : L.Pairwise fun p p' => F p ≤ F p'
/-- the best span among those that end before a -/
def Best (l : List In) (s : List UInt8) (a : Nat) (fd : Bool) (f e : Nat) : Prop :=
  (fd = true → SpanP l s f e ∧ e < a ∧ ∀ i j, SpanP l s i j → j < a → f ≤ i ∧ (i = f → j ≤ e)) ∧ (fd = false → f = 0 ∧ e = 0 ∧ ∀ i j, SpanP l s i j → a ≤ j)
/-- in the midst of a place: k threads are seen to -/
def Mid (l : List In) (s : List UInt8) (a : Nat) (F : Nat → Nat) (L : List Nat) (fd0 : Bool) (f0 : Nat) (k : Nat) (fd : Bool) (f e : Nat) : Prop :=
  (fd = true → SpanP l s f e ∧ e ≤ a ∧ (∀ i j, SpanP l s i j → j < a → f ≤ i ∧ (i = f → j ≤ e)) ∧ ∀ p, p ∈ L.take k → Mat l p → f + 1 ≤ F p ∧ (F p = f + 1 → a ≤ e)) ∧
  (fd = false → f = 0 ∧ e = 0 ∧ (∀ i j, SpanP l s i j → a ≤ j) ∧ ∀ p, p ∈ L.take k → ¬ Mat l p) ∧ (fd0 = true → fd = true ∧ f ≤ f0)
structure NxSt (l : List In) (s : List UInt8) (a : Nat) (F : Nat → Nat) (L : List Nat) (k : Nat) (fd : Bool) (f : Nat) (F2 : Nat → Nat) (L2 : List Nat) : Prop where
  sound : ∀ p, 1 ≤ F2 p → Rch l s (F2 p - 1) (a + 1) p
  clo : Clo l s.length (a + 1) F2
  lst : ∀ p, p ∈ L2 ↔ 1 ≤ F2 p
  srt : L2.Pairwise fun p p' => F2 p ≤ F2 p'
  full : ∀ p q, p ∈ L.take k → (fd = true → F p ≤ f + 1) → Byt l s a p q → 1 ≤ F2 q ∧ F2 q ≤ F p
  le : ∀ q p, p ∈ L.drop k → F2 q ≤ F p
section
variable {l : List In} {s : List UInt8} {a : Nat} {F F2 F' : Nat → Nat} {L L2 L' : List Nat} {fd fd0 : Bool} {f f0 e k : Nat} {G : Nat → Prop}
theorem PlSt.start (l : List In) (s : List UInt8) : PlSt l s 0 (GB false 0 0) (fun _ => 0) [] :=
  ⟨fun p h => absurd h (by omega), fun i p h => absurd (h.2 rfl) (by omega), fun p q h => absurd h (by omega), fun p => ⟨fun h => absurd h (by simp), fun h => absurd h (by omega)⟩, .nil⟩
theorem Best.start (l : List In) (s : List UInt8) : Best l s 0 false 0 0 := ⟨fun h => (by cases h), fun _ => ⟨rfl, rfl, fun _ _ _ => Nat.zero_le _⟩⟩
theorem PlSt.le (h : PlSt l s a G F L) (p : Nat) : F p ≤ a + 1 := by
  rcases Nat.eq_zero_or_pos (F p) with e | e
  · omega
  · have := (h.sound p e).le; omega
/-- the thread that begins here -/
theorem PlSt.fresh (h : PlSt l s a (GB false 0 a) F L) (k : AddSt l s.length a 0 (a + 1) F L F' L' []) : PlSt l s a (GB false 0 (a + 1)) F' L' := by
  have hmono : ∀ p, 1 ≤ F p → 1 ≤ F' p := fun p hp => by rw [k.old p hp]; exact hp
  have hclo : Clo l s.length a F' := fun p q hp e => (k.clo p q hp e).elim id fun h => absurd h.1 (by simp)
  have h0 : 1 ≤ F' 0 := k.hd.elim id fun h => absurd h (by simp)
  have hc : ∀ q, Star (Eps l s.length a) 0 q → 1 ≤ F' q := fun q hq => by
    have : ∀ p q, Star (Eps l s.length a) p q → 1 ≤ F' p → 1 ≤ F' q := fun p q hq => by
      induction hq with
      | refl => exact id
      | step e _ ih => exact fun h => ih (hclo _ _ h e).1
    exact this 0 q hq h0
  refine ⟨fun p hp => ?_, fun i p hi hR => ?_, hclo, fun p => ?_, ?_⟩
  · rcases Nat.eq_zero_or_pos (F p) with e | e
    · obtain ⟨h1, h2, _⟩ := k.new p e hp
      rw [h1]; exact Rch.star .start h2
    · rw [k.old p e]; exact h.sound p e
  · by_cases e : i < a
    · obtain ⟨h1, h2⟩ := h.full i p ⟨fun h => (by cases h), fun _ => e⟩ hR
      rw [k.old p h1]; exact ⟨h1, h2⟩
    · have hia : i = a := by have := hi.2 rfl; omega
      subst hia
      have h1 : 1 ≤ F' p := by
        clear e
        have : ∀ b p, Rch l s i b p → b = i → 1 ≤ F' p := by
          intro b p hR
          induction hR with
          | start => exact fun _ => h0
          | eps _ ee ih => intro hb; subst hb; exact (hclo _ _ (ih rfl) ee).1
          | byt hR _ _ => intro hb; have := hR.le; omega
        exact this i p hR rfl
      exact ⟨h1, k.le p⟩
  · obtain ⟨D, rfl, hD⟩ := k.lst
    rw [List.mem_append, hD, h.lst]
    constructor
    · rintro (h1 | ⟨_, h1⟩)
      · exact hmono p h1
      · exact h1
    · intro h1
      rcases Nat.eq_zero_or_pos (F p) with e | e
      · exact .inr ⟨e, h1⟩
      · exact .inl e
  · obtain ⟨D, rfl, hD⟩ := k.lst
    rw [List.pairwise_append]
    refine ⟨h.srt.imp_of_mem fun h1 h2 h3 => by rw [k.old _ ((h.lst _).1 h1), k.old _ ((h.lst _).1 h2)]; exact h3, ?_, fun p hp q hq => ?_⟩
    · refine List.Pairwise.imp_of_mem (R := fun _ _ => True) (fun {p q} h1 h2 _ => ?_) (List.pairwise_of_forall fun _ _ => trivial)
      obtain ⟨h3, h4⟩ := (hD _).1 h2
      rw [(k.new _ h3 h4).1]; exact k.le _
    · obtain ⟨h3, h4⟩ := (hD _).1 hq
      rw [(k.new _ h3 h4).1]; exact k.le _
theorem PlSt.old_ (h : PlSt l s a (GB true f a) F L) : PlSt l s a (GB true f (a + 1)) F L :=
  ⟨h.sound, fun i p hi => h.full i p ⟨hi.1, fun h => (by cases h)⟩, h.clo, h.lst, h.srt⟩

theorem Mid.start (h : Best l s a fd f e) : Mid l s a F L fd f 0 fd f e :=
  ⟨fun hf => ⟨(h.1 hf).1, Nat.le_of_lt (h.1 hf).2.1, (h.1 hf).2.2, fun p hp => absurd hp (by simp)⟩, fun hf => ⟨(h.2 hf).1, (h.2 hf).2.1, (h.2 hf).2.2, fun p hp => absurd hp (by simp)⟩, fun hf => ⟨hf, Nat.le_refl _⟩⟩
theorem NxSt.start : NxSt l s a F L 0 fd f (fun _ => 0) [] :=
  ⟨fun p h => absurd h (by omega), fun p q h => absurd h (by omega), fun p => ⟨fun h => absurd h (by simp), fun h => absurd h (by omega)⟩, .nil, fun p q hp => absurd hp (by simp), fun _ _ _ => Nat.zero_le _⟩
theorem take_one {k : Nat} (hk : k < L.length) {p : Nat} : p ∈ L.take (k + 1) ↔ p ∈ L.take k ∨ p = L[k] := by
  rw [List.take_succ_eq_append_getElem hk, List.mem_append, List.mem_singleton]
theorem drop_one {k p : Nat} (h : p ∈ L.drop (k + 1)) : p ∈ L.drop k := by
  rw [← List.drop_drop] at h
  exact List.mem_of_mem_drop h
/-- a thread that comes too late, or that does not match -/
theorem Mid.pass (h : Mid l s a F L fd0 f0 k fd f e) (hk : k < L.length) (hp : (fd = true ∧ f + 1 < F L[k]) ∨ ¬ Mat l L[k]) : Mid l s a F L fd0 f0 (k + 1) fd f e := by
  refine ⟨fun hf => ?_, fun hf => ?_, h.2.2⟩
  · obtain ⟨h1, h2, h3, h4⟩ := h.1 hf
    refine ⟨h1, h2, h3, fun p hp' hm => ?_⟩
    rcases (take_one hk).1 hp' with h5 | h5
    · exact h4 p h5 hm
    · subst h5
      rcases hp with ⟨_, h6⟩ | h6
      · omega
      · exact absurd hm h6
  · obtain ⟨h1, h2, h3, h4⟩ := h.2.1 hf
    refine ⟨h1, h2, h3, fun p hp' hm => ?_⟩
    rcases (take_one hk).1 hp' with h5 | h5
    · exact h4 p h5 hm
    · subst h5
      rcases hp with ⟨h6, _⟩ | h6
      · rw [hf] at h6; cases h6
      · exact absurd hm h6
/-- a match -/
theorem Mid.hit (hP : PlSt l s a G F L) (h : Mid l s a F L fd0 f0 k fd f e) (hk : k < L.length) (hs : a ≤ s.length) (hlt : ¬ (fd = true ∧ f + 1 < F L[k])) (hm : Mat l L[k]) : Mid l s a F L fd0 f0 (k + 1) true (F L[k] - 1) a := by
  have h1 : 1 ≤ F L[k] := (hP.lst _).1 (List.getElem_mem hk)
  refine ⟨fun _ => ⟨⟨hs, _, hm, hP.sound _ h1⟩, Nat.le_refl _, fun i j hsp hj => ?_, fun p hp hmp => ?_⟩, fun h => (by cases h), fun hf => ⟨rfl, ?_⟩⟩
  · cases fd with
    | true =>
      have h2 := (h.1 rfl).2.2.1 i j hsp hj
      have h3 : ¬ f + 1 < F L[k] := fun h => hlt ⟨rfl, h⟩
      exact ⟨by omega, fun _ => by omega⟩
    | false => have := (h.2.1 rfl).2.2.1 i j hsp; omega
  · refine ⟨?_, fun _ => Nat.le_refl _⟩
    rcases (take_one hk).1 hp with h5 | h5
    · cases fd with
      | true =>
        have h2 := ((h.1 rfl).2.2.2 p h5 hmp).1
        have h3 : ¬ f + 1 < F L[k] := fun h => hlt ⟨rfl, h⟩
        omega
      | false => exact absurd hmp ((h.2.1 rfl).2.2.2 p h5)
    · subst h5; omega
  · obtain ⟨h2, h4⟩ := h.2.2 hf
    have h3 : ¬ f + 1 < F L[k] := fun h => hlt ⟨h2, h⟩
    omega
/-- a thread that hands on nothing -/
theorem NxSt.pass (h : NxSt l s a F L k fd f F2 L2) (hk : k < L.length) (hp : (fd = true ∧ f + 1 < F L[k]) ∨ ∀ q, ¬ Byt l s a L[k] q) : NxSt l s a F L (k + 1) fd f F2 L2 := by
  refine ⟨h.sound, h.clo, h.lst, h.srt, fun p q hp' hf hb => ?_, fun q p hp' => h.le q p (drop_one hp')⟩
  rcases (take_one hk).1 hp' with h5 | h5
  · exact h.full p q h5 hf hb
  · subst h5
    rcases hp with ⟨h6, h7⟩ | h6
    · have := hf h6; omega
    · exact absurd hb (h6 q)
/-- the bound may sink -/
theorem NxSt.sink {fd' : Bool} {f' : Nat} (h : NxSt l s a F L k fd f F2 L2) (hs : fd = true → fd' = true ∧ f' ≤ f) : NxSt l s a F L k fd' f' F2 L2 :=
  ⟨h.sound, h.clo, h.lst, h.srt, fun p q hp hf hb => h.full p q hp (fun h => by
    obtain ⟨h1, h2⟩ := hs h
    have := hf h1; omega) hb, h.le⟩
/-- a thread that hands on the next instruction -/
theorem NxSt.go {q : Nat} (hP : PlSt l s a G F L) (h : NxSt l s a F L k fd f F2 L2) (hk : k < L.length) (hb : Byt l s a L[k] q) (ha : AddSt l s.length (a + 1) q (F L[k] - 1 + 1) F2 L2 F' L' []) : NxSt l s a F L (k + 1) fd f F' L' := by
  have h1 : 1 ≤ F L[k] := (hP.lst _).1 (List.getElem_mem hk)
  have e1 : F L[k] - 1 + 1 = F L[k] := by omega
  rw [e1] at ha
  have hmono : ∀ p, 1 ≤ F2 p → 1 ≤ F' p := fun p hp => by rw [ha.old p hp]; exact hp
  refine ⟨fun p hp => ?_, fun p q hp e => (ha.clo p q hp e).elim id fun h => absurd h.1 (by simp), fun p => ?_, ?_, fun p q' hp' hf hb' => ?_, fun q' p hp' => ?_⟩
  · rcases Nat.eq_zero_or_pos (F2 p) with e | e
    · obtain ⟨h2, h3, _⟩ := ha.new p e hp
      rw [h2]; exact Rch.star ((hP.sound _ h1).byt hb) h3
    · rw [ha.old p e]; exact h.sound p e
  · obtain ⟨D, rfl, hD⟩ := ha.lst
    rw [List.mem_append, hD, h.lst]
    constructor
    · rintro (h1 | ⟨_, h1⟩)
      · exact hmono p h1
      · exact h1
    · intro h1
      rcases Nat.eq_zero_or_pos (F2 p) with e | e
      · exact .inr ⟨e, h1⟩
      · exact .inl e
  · obtain ⟨D, rfl, hD⟩ := ha.lst
    rw [List.pairwise_append]
    refine ⟨h.srt.imp_of_mem fun h1 h2 h3 => by rw [ha.old _ ((h.lst _).1 h1), ha.old _ ((h.lst _).1 h2)]; exact h3, ?_, fun p hp q hq => ?_⟩
    · refine List.Pairwise.imp_of_mem (R := fun _ _ => True) (fun {p q} h1 h2 _ => ?_) (List.pairwise_of_forall fun _ _ => trivial)
      obtain ⟨h3, h4⟩ := (hD _).1 h2
      rw [(ha.new _ h3 h4).1]; exact ha.le _
    · obtain ⟨h3, h4⟩ := (hD _).1 hq
      rw [(ha.new _ h3 h4).1]; exact ha.le _
  · rcases (take_one hk).1 hp' with h5 | h5
    · obtain ⟨h6, h7⟩ := h.full p q' h5 hf hb'
      rw [ha.old _ h6]; exact ⟨h6, h7⟩
    · subst h5
      obtain ⟨_, _, _, _, e2⟩ := hb
      obtain ⟨_, _, _, _, e3⟩ := hb'
      have e4 : q' = q := by omega
      subst e4
      exact ⟨ha.hd.elim id fun h => absurd h (by simp), ha.le q'⟩
  · refine Nat.le_trans (ha.le q') ?_
    have hs := hP.srt
    rw [← List.take_append_drop k L, List.pairwise_append] at hs
    have h2 := hs.2.1
    rw [List.drop_eq_getElem_cons hk, List.pairwise_cons] at h2
    exact h2.1 p hp'
/-- a place is done -/
theorem Mid.done (hP : PlSt l s a (GB fd0 f0 (a + 1)) F L) (h : Mid l s a F L fd0 f0 k fd f e) (hk : L.length ≤ k) : Best l s (a + 1) fd f e := by
  have ht : L.take k = L := List.take_of_length_le hk
  refine ⟨fun hf => ?_, fun hf => ?_⟩
  · obtain ⟨h1, h2, h3, h4⟩ := h.1 hf
    refine ⟨h1, by omega, fun i j hsp hj => ?_⟩
    by_cases hja : j < a
    · exact h3 i j hsp hja
    · have hj2 : j = a := by omega
      subst hj2
      by_cases hi : f < i
      · exact ⟨by omega, fun h => by omega⟩
      · obtain ⟨_, p, hm, hR⟩ := hsp
        have hG : GB fd0 f0 (j + 1) i := ⟨fun h5 => by have := (h.2.2 h5).2; omega, fun _ => by have := hR.le; omega⟩
        obtain ⟨h6, h7⟩ := hP.full i p hG hR
        have h8 := h4 p (by rw [ht]; exact (hP.lst p).2 h6) hm
        exact ⟨by omega, fun h9 => h8.2 (by omega)⟩
  · obtain ⟨h1, h2, h3, h4⟩ := h.2.1 hf
    have hf0 : fd0 = false := by
      rcases Bool.eq_false_or_eq_true fd0 with hq | hq
      · have := (h.2.2 hq).1; rw [hf] at this; cases this
      · exact hq
    refine ⟨h1, h2, fun i j hsp => ?_⟩
    have h5 := h3 i j hsp
    rcases Nat.lt_or_ge a j with h6 | h6
    · exact h6
    · have hj2 : j = a := by omega
      subst hj2
      obtain ⟨_, p, hm, hR⟩ := hsp
      have hG : GB fd0 f0 (j + 1) i := ⟨fun h7 => (by rw [hf0] at h7; cases h7), fun _ => by have := hR.le; omega⟩
      obtain ⟨h6, h7⟩ := hP.full i p hG hR
      exact absurd hm (h4 p (by rw [ht]; exact (hP.lst p).2 h6))
theorem NxSt.done (hP : PlSt l s a (GB fd0 f0 (a + 1)) F L) (hm : Mid l s a F L fd0 f0 k fd f e) (h : NxSt l s a F L k fd f F2 L2) (hk : L.length ≤ k) : PlSt l s (a + 1) (GB fd f (a + 1)) F2 L2 := by
  have ht : L.take k = L := List.take_of_length_le hk
  refine ⟨h.sound, fun i p hG hR => ?_, h.clo, h.lst, h.srt⟩
  have hia : i ≤ a := by
    cases fd with
    | false => have := hG.2 rfl; omega
    | true =>
      have h1 := hG.1 rfl
      have h2 := (hm.1 rfl).1.le
      have h3 := (hm.1 rfl).2.1
      omega
  have key : ∀ b p, Rch l s i b p → b = a + 1 → 1 ≤ F2 p ∧ F2 p ≤ i + 1 := by
    intro b p hR
    induction hR with
    | start => intro hb; omega
    | eps _ e ih =>
      intro hb
      subst hb
      obtain ⟨h1, h2⟩ := ih rfl
      obtain ⟨h3, h4⟩ := h.clo _ _ h1 e
      exact ⟨h3, by omega⟩
    | @byt a' p' q' hR e _ =>
      intro hb
      have hb2 : a' = a := Nat.succ.inj hb
      rw [hb2] at hR e
      have hG0 : GB fd0 f0 (a + 1) i := ⟨fun h5 => by
        obtain ⟨h6, h7⟩ := hm.2.2 h5
        have := hG.1 h6; omega, fun _ => by have := hR.le; omega⟩
      obtain ⟨h1, h2⟩ := hP.full i _ hG0 hR
      obtain ⟨h3, h4⟩ := h.full _ _ (by rw [ht]; exact (hP.lst _).2 h1) (fun hf => by have := hG.1 hf; omega) e
      exact ⟨h3, by omega⟩
  exact key (a + 1) p hR rfl
theorem Best.first (h : Best l s (s.length + 1) fd f e) : FirstR (SpanP l s) f e fd := by
  cases fd with
  | true =>
    obtain ⟨h1, h2, h3⟩ := h.1 rfl
    refine .inl ⟨rfl, h1, fun i j hi hsp => ?_, fun j hsp => ?_⟩
    · have := (h3 i j hsp (by have := hsp.1; omega)).1; omega
    · exact (h3 f j hsp (by have := hsp.1; omega)).2 rfl
  | false =>
    obtain ⟨h1, h2, h3⟩ := h.2 rfl
    exact .inr ⟨rfl, h1, h2, fun i j hsp => by have := h3 i j hsp; have := hsp.1; omega⟩
end
end Go.Proofs.Ytckinkapbfaceaa
