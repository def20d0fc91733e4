/- Walks: wickref.spans at a sequence, at a star. -/
import Derived.Test.YtckinkapbfaceaaSpnC
namespace Go.Proofs.Ytckinkapbfaceaa
open Go.RowKit
set_option linter.unusedVariables false
set_option linter.unusedSimpArgs false

def CatP (Ta Tb : Nat → Nat → Bool) (n k mm jj : Nat) (T : Nat → Nat → Bool) : Prop := ∀ i j, i ≤ n → j ≤ n → (T i j = true ↔ ∃ m, i ≤ m ∧ m ≤ j ∧ (i < k ∨ (i = k ∧ (m < mm ∨ (m = mm ∧ j < jj)))) ∧ Ta i m = true ∧ Tb m j = true)
section
variable {Ta Tb T : Nat → Nat → Bool} {n k mm jj : Nat}
theorem CatP.start : CatP Ta Tb n 0 0 0 (fun _ _ => false) := fun i j _ _ => ⟨fun h => (by cases h), fun ⟨m, h1, h2, h3, _⟩ => by omega⟩
theorem CatP.row (h : CatP Ta Tb n k (n + 1) jj T) : CatP Ta Tb n (k + 1) (k + 1) (k + 1) T := fun i j hi hj => by
  rw [h i j hi hj]
  constructor
  · rintro ⟨m, h1, h2, h3, h4⟩; exact ⟨m, h1, h2, by omega, h4⟩
  · rintro ⟨m, h1, h2, h3, h4⟩; exact ⟨m, h1, h2, by omega, h4⟩
theorem CatP.skip (h : CatP Ta Tb n k mm jj T) (ha : Ta k mm = false) : CatP Ta Tb n k (mm + 1) (mm + 1) T := fun i j hi hj => by
  rw [h i j hi hj]
  constructor
  · rintro ⟨m, h1, h2, h3, h4⟩; exact ⟨m, h1, h2, by omega, h4⟩
  · rintro ⟨m, h1, h2, h3, h4, h5⟩
    refine ⟨m, h1, h2, ?_, h4, h5⟩
    rcases h3 with h3 | ⟨rfl, h3⟩
    · exact .inl h3
    · refine .inr ⟨rfl, ?_⟩
      by_cases e : m = mm
      · rw [e, ha] at h4; cases h4
      · omega
theorem CatP.next (h : CatP Ta Tb n k mm (n + 1) T) : CatP Ta Tb n k (mm + 1) (mm + 1) T := fun i j hi hj => by
  rw [h i j hi hj]
  constructor
  · rintro ⟨m, h1, h2, h3, h4⟩; exact ⟨m, h1, h2, by omega, h4⟩
  · rintro ⟨m, h1, h2, h3, h4⟩; exact ⟨m, h1, h2, by omega, h4⟩
theorem CatP.set_ (h : CatP Ta Tb n k mm jj T) (hk : k ≤ n) (hj : jj ≤ n) (hkm : k ≤ mm) (hmj : mm ≤ jj) (ha : Ta k mm = true) {v : Bool} (hv : v = (T k jj || Tb mm jj)) : CatP Ta Tb n k mm (jj + 1) (upd T k jj v) := fun i j hi hj' => by
  rw [upd_if]
  by_cases e : i = k ∧ j = jj
  · obtain ⟨rfl, rfl⟩ := e
    rw [if_pos ⟨rfl, rfl⟩, hv, Bool.or_eq_true, h i j hi hj']
    constructor
    · rintro (⟨m, h1, h2, h3, h4⟩ | h0)
      · exact ⟨m, h1, h2, by omega, h4⟩
      · exact ⟨mm, hkm, hmj, by omega, ha, h0⟩
    · rintro ⟨m, h1, h2, h3, h4, h5⟩
      by_cases e : m = mm
      · subst e; exact .inr h5
      · exact .inl ⟨m, h1, h2, by omega, h4, h5⟩
  · rw [if_neg e, h i j hi hj']
    constructor
    · rintro ⟨m, h1, h2, h3, h4⟩; exact ⟨m, h1, h2, by omega, h4⟩
    · rintro ⟨m, h1, h2, h3, h4⟩; exact ⟨m, h1, h2, by omega, h4⟩
end
theorem CatP.all {s : List UInt8} {a c : Re} {Ta Tb T : Nat → Nat → Bool} {mm jj : Nat} (h : CatP Ta Tb s.length (s.length + 1) mm jj T) (ha : SpT s a Ta) (hc : SpT s c Tb) : SpT s (.cat a c) T := fun i j hi hj => by
  rw [h i j hi hj]
  constructor
  · rintro ⟨m, h1, h2, _, h4, h5⟩
    exact ⟨m, (ha i m hi (by omega)).1 h4, (hc m j (by omega) hj).1 h5⟩
  · rintro ⟨m, h1, h2⟩
    have k1 := sp_le _ _ _ _ h1
    have k2 := sp_le _ _ _ _ h2
    exact ⟨m, k1.1, k2.1, by omega, (ha i m hi (by omega)).2 h1, (hc m j (by omega) hj).2 h2⟩

theorem star_head {R : Nat → Nat → Prop} (hR : ∀ i j, R i j → i ≤ j) {i j : Nat} (h : Star R i j) : i = j ∨ ∃ m, i < m ∧ R i m ∧ Star R m j := by
  induction h with
  | refl => exact .inl rfl
  | @step i m j a b ih =>
    have := hR _ _ a
    by_cases e : i = m
    · subst e; exact ih
    · exact .inr ⟨m, by omega, a, b⟩
def RowsP (St : Nat → Nat → Prop) (n r : Nat) (T : Nat → Nat → Bool) : Prop := ∀ i j, i ≤ n → j ≤ n → (T i j = true ↔ r ≤ i ∧ i ≤ j ∧ St i j)
def StarP (Ta : Nat → Nat → Bool) (St : Nat → Nat → Prop) (n k mm jj : Nat) (T : Nat → Nat → Bool) : Prop := ∀ i j, i ≤ n → j ≤ n → (T i j = true ↔ i ≤ j ∧ ((k < i ∧ St i j) ∨ (i = k ∧ (j = k ∨ ∃ m, k < m ∧ m ≤ j ∧ (m < mm ∨ (m = mm ∧ j < jj)) ∧ Ta k m = true ∧ St m j))))
section
variable {Ta T : Nat → Nat → Bool} {St : Nat → Nat → Prop} {n k mm jj : Nat}
theorem RowsP.start : RowsP St n (n + 1) (fun _ _ => false) := fun i j hi _ => ⟨fun h => (by cases h), fun ⟨h, _⟩ => by omega⟩
theorem RowsP.open_ (h : RowsP St n (k + 1) T) (hs : ∀ i, St i i) : StarP Ta St n k (k + 1) (k + 1) (upd T k k true) := fun i j hi hj => by
  rw [upd_if]
  by_cases e : i = k ∧ j = k
  · obtain ⟨rfl, rfl⟩ := e
    rw [if_pos ⟨rfl, rfl⟩]
    exact ⟨fun _ => ⟨Nat.le_refl _, .inr ⟨rfl, .inl rfl⟩⟩, fun _ => rfl⟩
  · rw [if_neg e, h i j hi hj]
    constructor
    · rintro ⟨h1, h2, h3⟩; exact ⟨h2, .inl ⟨by omega, h3⟩⟩
    · rintro ⟨h1, ⟨h2, h3⟩ | ⟨rfl, h3 | ⟨m, h3, h4, h5, _⟩⟩⟩
      · exact ⟨by omega, h1, h3⟩
      · exact absurd ⟨rfl, h3⟩ e
      · omega
theorem StarP.skip (h : StarP Ta St n k mm jj T) (ha : Ta k mm = false) : StarP Ta St n k (mm + 1) (mm + 1) T := fun i j hi hj => by
  rw [h i j hi hj]
  constructor
  · rintro ⟨h0, h1 | ⟨rfl, h1 | ⟨m, h2, h3, h4, h5⟩⟩⟩
    · exact ⟨h0, .inl h1⟩
    · exact ⟨h0, .inr ⟨rfl, .inl h1⟩⟩
    · exact ⟨h0, .inr ⟨rfl, .inr ⟨m, h2, h3, by omega, h5⟩⟩⟩
  · rintro ⟨h0, h1 | ⟨rfl, h1 | ⟨m, h2, h3, h4, h5, h6⟩⟩⟩
    · exact ⟨h0, .inl h1⟩
    · exact ⟨h0, .inr ⟨rfl, .inl h1⟩⟩
    · refine ⟨h0, .inr ⟨rfl, .inr ⟨m, h2, h3, ?_, h5, h6⟩⟩⟩
      by_cases e : m = mm
      · rw [e, ha] at h5; cases h5
      · omega
theorem StarP.next (h : StarP Ta St n k mm (n + 1) T) : StarP Ta St n k (mm + 1) (mm + 1) T := fun i j hi hj => by
  rw [h i j hi hj]
  constructor
  · rintro ⟨h0, h1 | ⟨rfl, h1 | ⟨m, h2, h3, h4, h5⟩⟩⟩
    · exact ⟨h0, .inl h1⟩
    · exact ⟨h0, .inr ⟨rfl, .inl h1⟩⟩
    · exact ⟨h0, .inr ⟨rfl, .inr ⟨m, h2, h3, by omega, h5⟩⟩⟩
  · rintro ⟨h0, h1 | ⟨rfl, h1 | ⟨m, h2, h3, h4, h5⟩⟩⟩
    · exact ⟨h0, .inl h1⟩
    · exact ⟨h0, .inr ⟨rfl, .inl h1⟩⟩
    · exact ⟨h0, .inr ⟨rfl, .inr ⟨m, h2, h3, by omega, h5⟩⟩⟩
theorem StarP.set_ (h : StarP Ta St n k mm jj T) (hk : k ≤ n) (hj : jj ≤ n) (hkm : k < mm) (hmj : mm ≤ jj) (ha : Ta k mm = true) {v : Bool} (hv : v = (T k jj || T mm jj)) : StarP Ta St n k mm (jj + 1) (upd T k jj v) := fun i j hi hj' => by
  rw [upd_if]
  by_cases e : i = k ∧ j = jj
  · obtain ⟨rfl, rfl⟩ := e
    rw [if_pos ⟨rfl, rfl⟩, hv, Bool.or_eq_true, h i j hi hj', h mm j (by omega) hj']
    constructor
    · rintro (⟨h0, h1 | ⟨_, h1 | ⟨m, h2, h3, h4, h5⟩⟩⟩ | ⟨h0, ⟨h1, h2⟩ | ⟨h1, _⟩⟩)
      · omega
      · exact ⟨h0, .inr ⟨rfl, .inl h1⟩⟩
      · exact ⟨h0, .inr ⟨rfl, .inr ⟨m, h2, h3, by omega, h5⟩⟩⟩
      · exact ⟨by omega, .inr ⟨rfl, .inr ⟨mm, hkm, hmj, by omega, ha, h2⟩⟩⟩
      · omega
    · rintro ⟨h0, h1 | ⟨_, h1 | ⟨m, h2, h3, h4, h5, h6⟩⟩⟩
      · omega
      · exact .inl ⟨h0, .inr ⟨rfl, .inl h1⟩⟩
      · by_cases e : m = mm
        · subst e; exact .inr ⟨h3, .inl ⟨h2, h6⟩⟩
        · exact .inl ⟨h0, .inr ⟨rfl, .inr ⟨m, h2, h3, by omega, h5, h6⟩⟩⟩
  · rw [if_neg e, h i j hi hj']
    constructor
    · rintro ⟨h0, h1 | ⟨rfl, h1 | ⟨m, h2, h3, h4, h5⟩⟩⟩
      · exact ⟨h0, .inl h1⟩
      · exact ⟨h0, .inr ⟨rfl, .inl h1⟩⟩
      · exact ⟨h0, .inr ⟨rfl, .inr ⟨m, h2, h3, by omega, h5⟩⟩⟩
    · rintro ⟨h0, h1 | ⟨rfl, h1 | ⟨m, h2, h3, h4, h5⟩⟩⟩
      · exact ⟨h0, .inl h1⟩
      · exact ⟨h0, .inr ⟨rfl, .inl h1⟩⟩
      · exact ⟨h0, .inr ⟨rfl, .inr ⟨m, h2, h3, by omega, h5⟩⟩⟩
end
theorem StarP.close {s : List UInt8} {a : Re} {Ta T : Nat → Nat → Bool} {k jj : Nat} (h : StarP Ta (Star (Sp s a)) s.length k (s.length + 1) jj T) (hk : k ≤ s.length) (ha : SpT s a Ta) : RowsP (Star (Sp s a)) s.length k T := fun i j hi hj => by
  rw [h i j hi hj]
  constructor
  · rintro ⟨h0, ⟨h1, h2⟩ | ⟨rfl, h1 | ⟨m, h2, h3, h4, h5, h6⟩⟩⟩
    · exact ⟨by omega, h0, h2⟩
    · subst h1; exact ⟨Nat.le_refl _, h0, .refl _⟩
    · exact ⟨Nat.le_refl _, h0, .step ((ha i m hi (by omega)).1 h5) h6⟩
  · rintro ⟨h0, h1, h2⟩
    refine ⟨h1, ?_⟩
    by_cases e : i = k
    · subst e
      refine .inr ⟨rfl, ?_⟩
      rcases star_head (fun i j h => (sp_le s a i j h).1) h2 with h3 | ⟨m, h3, h4, h5⟩
      · exact .inl h3.symm
      · have h6 := sp_le s a _ _ h4
        have h7 := star_le (sp_le s a) h5 h6.2
        exact .inr ⟨m, h3, h7.1, by omega, (ha i m hi h6.2).2 h4, h5⟩
    · exact .inl ⟨by omega, h2⟩
theorem RowsP.all {s : List UInt8} {a : Re} {T : Nat → Nat → Bool} (h : RowsP (Star (Sp s a)) s.length 0 T) : SpT s (.star a) T := fun i j hi hj => by
  rw [h i j hi hj]
  exact ⟨fun ⟨_, _, h3⟩ => ⟨h3, hi⟩, fun ⟨h1, h2⟩ => ⟨Nat.zero_le _, (star_le (sp_le s a) h1 h2).1, h1⟩⟩
section
variable (s : ByteArray) (a c : Re) (ca cc : List Value) (IHa : SpansOk s a) (IHc : SpansOk s c) (D : Nat) (w : World) (A : Option Addr) (cp : Nat)
set_option maxRecDepth 100000 in
set_option maxHeartbeats 8000000 in
include IHa IHc in
theorem spans_cat (hs : s.size ≤ 60) (hD : D ≤ w.heap.size) (h1 : At6 w D A 0 ca) (h2 : At6 w D A 1 cc) (ha : ReC w D a ca) (hc : ReC w D c cc) (hcap : 2 ≤ cp) (hcap2 : cp ≤ 9223372036854775807) :
    Calls Try.prog 57 #[.agg #[.int .i64 4, .int .u64 0, .int .u64 0, .int .u64 0, .int .u64 0, .slice A 2 cp], .string s] w (SpansRes s (.cat a c) w) := by
  obtain ⟨ad, rfl⟩ : ∃ ad, A = some ad := ⟨_, h1.choose_spec.1⟩
  obtain ⟨a0, a1, a2, a3, a4, A5, l5, cap5, rfl⟩ := re_cs ha
  obtain ⟨b0, b1, b2, b3, b4, B5, m5, capb, rfl⟩ := re_cs hc
  have hblw : ad.block < w.heap.size := by have := (kid_cells h1 (Below.refl _ _)).1; omega
  obtain ⟨box, hbox⟩ : ∃ box : Array Value, box = #[.int .i64 4, .int .u64 0, .int .u64 0, .int .u64 0, .int .u64 0, .slice (some ad) 2 cp] := ⟨_, rfl⟩
  obtain ⟨g, hg, CB⟩ := spans_pre w #[.int .i64 4, .int .u64 0, .int .u64 0, .int .u64 0, .int .u64 0, .slice (some ad) 2 cp] s hs
  rw [← hbox] at CB
  have CB := Lib.hid CB
  have H1 := Lib.hid fun w' (hk : Below D w w') => kid0 h1 hk
  have H2 := Lib.hid fun w' (hk : Below D w w') => kid1 h2 hk
  have HS : Hid (∀ w', SpI w box g (s.size + 1) w' (fun _ _ => false) → w'.cell? ⟨w.heap.size, 5, none⟩ = some (.slice (some ad) 2 cp) ∧ (w'.cell? ad = some (.int .i64 a0) ∧ w'.cell? ⟨ad.block, ad.off + 1, none⟩ = some (.int .u64 a1) ∧ w'.cell? ⟨ad.block, ad.off + 2, none⟩ = some (.int .u64 a2) ∧ w'.cell? ⟨ad.block, ad.off + 3, none⟩ = some (.int .u64 a3) ∧ w'.cell? ⟨ad.block, ad.off + 4, none⟩ = some (.int .u64 a4) ∧ w'.cell? ⟨ad.block, ad.off + 5, none⟩ = some (.slice A5 l5 cap5)) ∧ (w'.cell? ⟨ad.block, ad.off + 6, none⟩ = some (.int .i64 b0) ∧ w'.cell? ⟨ad.block, ad.off + 6 + 1, none⟩ = some (.int .u64 b1) ∧ w'.cell? ⟨ad.block, ad.off + 6 + 2, none⟩ = some (.int .u64 b2) ∧ w'.cell? ⟨ad.block, ad.off + 6 + 3, none⟩ = some (.int .u64 b3) ∧ w'.cell? ⟨ad.block, ad.off + 6 + 4, none⟩ = some (.int .u64 b4) ∧ w'.cell? ⟨ad.block, ad.off + 6 + 5, none⟩ = some (.slice B5 m5 capb))) :=
    fun w' h => ⟨by rw [h.blk.cell 5, hbox]; rfl, H1.out w' (h.below.mono hD), H2.out w' (h.below.mono hD)⟩
  have HK : Hid (∀ w' T, SpI w box g (s.size + 1) w' T → w'.cell? ⟨w.heap.size, 0, none⟩ = some (.int .i64 4)) := fun w' T h => by rw [h.blk.cell 0, hbox]; rfl
  have CA := Lib.hid fun w' (h : SpI w box g (s.size + 1) w' (fun _ _ => false)) => IHa _ D w' (ha.below (h.below.mono hD)) (Nat.le_trans hD h.below.size)
  have CC := Lib.hid fun w' (h : SpI w box g (s.size + 1) w' (fun _ _ => false)) => IHc _ D w' (hc.below (h.below.mono hD)) (Nat.le_trans hD h.below.size)
  have HX := Lib.hid hbox
  clear ha hc h1 h2 IHa IHc hbox
  go_enter Try.func57, Try.ntmps57
  go_wp2_with fail
  rw [← HX.out]
  refine CB.out.mono ?_
  rintro e w1 ⟨rfl, hI⟩
  have HI := Lib.hid hI
  have k0 := HK.out _ _ hI
  clear hI CB
  go_wp2_with fail
  clear k0
  have hI := HI.out.drew
  have hN : 0 < s.size + 1 := by omega
  go_region_held3 (fun w' => w'.cell? ⟨w.heap.size, 5, none⟩ = some (.slice (some ad) 2 cp) ∧ (w'.cell? ad = some (.int .i64 a0) ∧ w'.cell? ⟨ad.block, ad.off + 1, none⟩ = some (.int .u64 a1) ∧ w'.cell? ⟨ad.block, ad.off + 2, none⟩ = some (.int .u64 a2) ∧ w'.cell? ⟨ad.block, ad.off + 3, none⟩ = some (.int .u64 a3) ∧ w'.cell? ⟨ad.block, ad.off + 4, none⟩ = some (.int .u64 a4) ∧ w'.cell? ⟨ad.block, ad.off + 5, none⟩ = some (.slice A5 l5 cap5)) ∧ (w'.cell? ⟨ad.block, ad.off + 6, none⟩ = some (.int .i64 b0) ∧ w'.cell? ⟨ad.block, ad.off + 6 + 1, none⟩ = some (.int .u64 b1) ∧ w'.cell? ⟨ad.block, ad.off + 6 + 2, none⟩ = some (.int .u64 b2) ∧ w'.cell? ⟨ad.block, ad.off + 6 + 3, none⟩ = some (.int .u64 b3) ∧ w'.cell? ⟨ad.block, ad.off + 6 + 4, none⟩ = some (.int .u64 b4) ∧ w'.cell? ⟨ad.block, ad.off + 6 + 5, none⟩ = some (.slice B5 m5 capb))) (exact HS.out _ (by assumption))
    (first
      | (go_at_call 57; (with_reducible refine (CA.out _ (by assumption)).mono ?_); rintro e w1 ⟨ga, Ta, rfl, hTa, hla, hba, hSa⟩; have hIa := SpI.call (by assumption) hN hba; (try have hTb := Tab.kept hTb hN hba))
      | (go_at_call 57; (with_reducible refine (CC.out _ (by assumption)).mono ?_); rintro e w2 ⟨gb, Tb, rfl, hTb, hlb, hbb, hSb⟩; have hIb := SpI.call (by assumption) hN hbb; (try have hTa := Tab.kept hTa hN hbb)))
  have HI2 := Lib.hid hIb
  have HTa := Lib.hid hTa
  have HTb := Lib.hid hTb
  have hga : g < ga := by have := HI.out.big; have h0 : w1.drew.heap.size = w1.heap.size := rfl; have := hIa.big; have := hI.big; omega
  have hgb : g < gb := by have := hIa.big; omega
  have hgaN : g + (s.size + 1) < ga := by have := hI.big; omega
  have hgbN : g + (s.size + 1) < gb := by have := hIa.big; omega
  have HSa := Lib.hid hSa
  have HSb := Lib.hid hSb
  clear hIb hIa hTa hTb hSa hSb hba hbb HS H1 H2 CA CC hI HI
  go_wp2_with fail
  go_loopw [15] (fun i wr => ∃ (k : Nat) (T : Nat → Nat → Bool), k ≤ s.size + 1 ∧ i = .int .i64 k ∧ Hid (CatP Ta Tb s.size k k k T) ∧ SpI w box g (s.size + 1) wr T ∧ Tab wr ga (s.size + 1) Ta ∧ Tab wr gb (s.size + 1) Tb) (fun i _ => s.size + 1 - (intOf i).toNat)
  case atStart => exact ⟨0, _, by omega, rfl, CatP.start, HI2.out, HTa.out, HTb.out⟩
  case round =>
    obtain ⟨k, T, hk, rfl, HP, hI, hTa, hTb⟩ := hrel
    have HI3 := Lib.hid hI
    have HTa3 := Lib.hid hTa
    have HTb3 := Lib.hid hTb
    clear hI hTa hTb
    by_cases hlt : k < s.size + 1
    · have i1 : (k : Int) ≤ (s.size : Int) := by omega
      have i2 : (k : Int) < (s.size : Int) + 1 := by omega
      go_wp2_with fail
      obtain ⟨wm, hwm⟩ : ∃ wm : World, wm = wr := ⟨_, rfl⟩
      rw [← hwm] at HI3 HTa3 HTb3 ⊢
      clear hwm
      go_loopw [16] (fun i wi => ∃ (m : Nat) (T : Nat → Nat → Bool), k ≤ m ∧ m ≤ s.size + 1 ∧ i = .int .i64 m ∧ Hid (CatP Ta Tb s.size k m m T) ∧ SpI w box g (s.size + 1) wi T ∧ Tab wi ga (s.size + 1) Ta ∧ Tab wi gb (s.size + 1) Tb) (fun i _ => s.size + 1 - (intOf i).toNat)
      case atStart => exact ⟨k, T, Nat.le_refl _, by omega, rfl, HP, HI3.out, HTa3.out, HTb3.out⟩
      case round =>
        obtain ⟨m, T1, hkm, hm, rfl, HP1, hI, hTa, hTb⟩ := hrel
        have HI4 := Lib.hid hI
        have HTa4 := Lib.hid hTa
        have HTb4 := Lib.hid hTb
        clear hI hTa hTb
        by_cases hlm : m < s.size + 1
        · have j0 : (0 : Int) ≤ (m : Int) := by omega
          have j1 : (m : Int) ≤ (s.size : Int) := by omega
          have j2 : (m : Int) < (s.size : Int) + 1 := by omega
          have j3 : (0 : Int) ≤ (k : Int) := by omega
          go_wp2_with fail
          obtain ⟨wn, hwn⟩ : ∃ wn : World, wn = wr := ⟨_, rfl⟩
          rw [← hwn] at HI4 HTa4 HTb4 ⊢
          clear hwn
          go_loopw [17] (fun i wi => ∃ (j : Nat) (T : Nat → Nat → Bool), m ≤ j ∧ j ≤ s.size + 1 ∧ i = .int .i64 j ∧ Hid (CatP Ta Tb s.size k m j T) ∧ SpI w box g (s.size + 1) wi T ∧ Tab wi ga (s.size + 1) Ta ∧ Tab wi gb (s.size + 1) Tb) (fun i _ => s.size + 1 - (intOf i).toNat)
          case atStart => exact ⟨m, T1, Nat.le_refl _, by omega, rfl, HP1, HI4.out, HTa4.out, HTb4.out⟩
          case round =>
            obtain ⟨j, T2, hmj, hj, rfl, HP2, hI, hTa, hTb⟩ := hrel
            have HI5 := Lib.hid hI
            have HTa5 := Lib.hid hTa
            have HTb5 := Lib.hid hTb
            by_cases hlj : j < s.size + 1
            · have l0 : (0 : Int) ≤ (j : Int) := by omega
              have l1 : (j : Int) ≤ (s.size : Int) := by omega
              have l2 : (j : Int) < (s.size : Int) + 1 := by omega
              obtain ⟨y0, y1, _⟩ := hTa.facts hlt hlm
              cases hv : Ta k m with
              | false =>
                rw [hv] at y1
                have HP3 := Lib.hid (HP2.out.skip hv)
                clear hI hTa hTb hv
                go_wp2_with fail
                go_roundw
                case rel => exact ⟨m + 1, T2, by omega, by omega, by go_num, HP3, HI5.out, HTa5.out, HTb5.out⟩
                case measure => simp [intOf]; omega
              | true =>
                rw [hv] at y1
                obtain ⟨x0, x1, x2⟩ := hI.tab.facts hlt hlj
                obtain ⟨z0, z1, _⟩ := hTb.facts hlm hlj
                have HNa := fun v => Lib.hid (HTa5.out.far (p := ⟨g + 1 + k, j, none⟩) (by show g + 1 + k < ga; omega) (.bool v)).drew
                have HNb := fun v => Lib.hid (HTb5.out.far (p := ⟨g + 1 + k, j, none⟩) (by show g + 1 + k < gb; omega) (.bool v)).drew
                have HNI := fun v => Lib.hid (HI5.out.set_ hlt hlj v).drew
                have HPV := Lib.hid fun v hv2 => HP2.out.set_ (v := v) (by omega) (by omega) hkm hmj hv hv2
                clear hI hTa hTb hv
                cases hx : T2 k j with
                | true =>
                  rw [hx] at x1
                  have HP3 := Lib.hid (HPV.out true (by rw [hx]; rfl))
                  clear hx
                  go_wp2_with fail
                  go_region
                  all_goals go_wp2_with fail
                  all_goals first
                    | exact ⟨⟨j + 1, _, by omega, by omega, by go_num, HP3, (HNI true).out, (HNa true).out, (HNb true).out⟩, by simp [intOf]; omega⟩
                    | (go_roundw
                       case rel => exact ⟨j + 1, _, by omega, by omega, by go_num, HP3, (HNI true).out, (HNa true).out, (HNb true).out⟩
                       case measure => simp [intOf]; omega)
                | false =>
                  rw [hx] at x1
                  obtain ⟨v, hv2⟩ : ∃ v, v = Tb m j := ⟨_, rfl⟩
                  rw [← hv2] at z1
                  have HP3 := Lib.hid (HPV.out v (by rw [hx, hv2]; rfl))
                  clear hx hv2
                  go_wp2_with fail
                  go_region
                  all_goals go_wp2_with fail
                  all_goals first
                    | exact ⟨⟨j + 1, _, by omega, by omega, by go_num, HP3, (HNI v).out, (HNa v).out, (HNb v).out⟩, by simp [intOf]; omega⟩
                    | (go_roundw
                       case rel => exact ⟨j + 1, _, by omega, by omega, by go_num, HP3, (HNI v).out, (HNa v).out, (HNb v).out⟩
                       case measure => simp [intOf]; omega)
            · obtain rfl : j = s.size + 1 := by omega
              have HP3 := Lib.hid HP2.out.next
              clear hI hTa hTb
              go_wp2_with fail
              go_roundw
              case rel => exact ⟨m + 1, T2, by omega, by omega, by go_num, HP3, HI5.out, HTa5.out, HTb5.out⟩
              case measure => simp [intOf]; omega
        · obtain rfl : m = s.size + 1 := by omega
          have HP2 := Lib.hid HP1.out.row
          go_wp2_with fail
          go_roundw
          case rel => exact ⟨k + 1, T1, by omega, by go_num, HP2, HI4.out, HTa4.out, HTb4.out⟩
          case measure => simp [intOf]; omega
    · obtain rfl : k = s.size + 1 := by omega
      have HF : Hid (SpT s.data.toList (.cat a c) T) := CatP.all (by rw [lst_len]; exact HP.out) HSa.out HSb.out
      go_wp2_with fail
      go_ret
      exact ⟨g, _, rfl, HI3.out.tab, by omega, HI3.out.below, HF.out⟩
set_option maxRecDepth 100000 in
set_option maxHeartbeats 8000000 in
include IHa in
theorem spans_star (hs : s.size ≤ 60) (hD : D ≤ w.heap.size) (h1 : At6 w D A 0 ca) (ha : ReC w D a ca) (hcap : 1 ≤ cp) (hcap2 : cp ≤ 9223372036854775807) :
    Calls Try.prog 57 #[.agg #[.int .i64 6, .int .u64 0, .int .u64 0, .int .u64 0, .int .u64 0, .slice A 1 cp], .string s] w (SpansRes s (.star a) w) := by
  obtain ⟨ad, rfl⟩ : ∃ ad, A = some ad := ⟨_, h1.choose_spec.1⟩
  obtain ⟨a0, a1, a2, a3, a4, A5, l5, cap5, rfl⟩ := re_cs ha
  have hblw : ad.block < w.heap.size := by have := (kid_cells h1 (Below.refl _ _)).1; omega
  obtain ⟨g, hg, CB⟩ := spans_pre w #[.int .i64 6, .int .u64 0, .int .u64 0, .int .u64 0, .int .u64 0, .slice (some ad) 1 cp] s hs
  obtain ⟨box, hbox⟩ : ∃ box : Array Value, box = #[.int .i64 6, .int .u64 0, .int .u64 0, .int .u64 0, .int .u64 0, .slice (some ad) 1 cp] := ⟨_, rfl⟩
  rw [← hbox] at CB
  have CB := Lib.hid CB
  have H1 := Lib.hid fun w' (hk : Below D w w') => kid0 h1 hk
  have HK : Hid (∀ w' T, SpI w box g (s.size + 1) w' T → w'.cell? ⟨w.heap.size, 0, none⟩ = some (.int .i64 6) ∧ w'.cell? ⟨w.heap.size, 5, none⟩ = some (.slice (some ad) 1 cp)) := fun w' T h => ⟨by rw [h.blk.cell 0, hbox]; rfl, by rw [h.blk.cell 5, hbox]; rfl⟩
  have CA := Lib.hid fun w' (h : SpI w box g (s.size + 1) w' (fun _ _ => false)) => IHa _ D w' (ha.below (h.below.mono hD)) (Nat.le_trans hD h.below.size)
  have HX := Lib.hid hbox
  clear ha h1 IHa hbox
  go_enter Try.func57, Try.ntmps57
  go_wp2_with fail
  rw [← HX.out]
  refine CB.out.mono ?_
  rintro e w1 ⟨rfl, hI⟩
  have HI := Lib.hid hI
  obtain ⟨k0, k5⟩ := HK.out _ _ hI
  obtain ⟨d0, d1, d2, d3, d4, d5⟩ := H1.out w1 (hI.below.mono hD)
  have hbl1 : ad.block < w1.heap.size := by have := hI.below.size; omega
  have CA1 := Lib.hid (CA.out w1 hI)
  clear hI CB CA
  go_wp2_with fail
  refine CA1.out.mono ?_
  rintro e w2 ⟨ga, Ta, rfl, hTa, hla, hba, hSa⟩
  have hN : 0 < s.size + 1 := by omega
  have HI2 := Lib.hid (HI.out.call hN hba)
  have HTa := Lib.hid hTa
  have HSa := Lib.hid hSa
  have hgaN : g + (s.size + 1) < ga := by have := HI.out.big; omega
  clear hTa hba hSa CA1 k0 k5 d0 d1 d2 d3 d4 d5 HI
  go_wp2_with fail
  go_loopw [19] (fun i wr => ∃ (r : Nat) (T : Nat → Nat → Bool), r ≤ s.size + 1 ∧ i = .int .i64 ((r : Int) - 1) ∧ Hid (RowsP (Star (Sp s.data.toList a)) s.size r T) ∧ SpI w box g (s.size + 1) wr T ∧ Tab wr ga (s.size + 1) Ta) (fun i _ => (intOf i + 1).toNat)
  case atStart => exact ⟨s.size + 1, _, by omega, by go_num, RowsP.start, HI2.out, HTa.out⟩
  case round =>
    obtain ⟨r, T, hr, rfl, HP, hI, hTa⟩ := hrel
    have HI3 := Lib.hid hI
    have HTa3 := Lib.hid hTa
    by_cases hlt0 : 0 < r
    · obtain ⟨k, rfl⟩ : ∃ k, r = k + 1 := ⟨r - 1, by omega⟩
      have hlt : k < s.size + 1 := by omega
      have e1 : (((k + 1 : Nat) : Int) - 1) = (k : Int) := by omega
      rw [e1]
      have i0 : (0 : Int) ≤ (k : Int) := by omega
      have i1 : (k : Int) ≤ (s.size : Int) := by omega
      have i2 : (k : Int) < (s.size : Int) + 1 := by omega
      obtain ⟨x0, x1, x2⟩ := hI.tab.facts hlt hlt
      have HI3b := Lib.hid (hI.set_ hlt hlt true)
      have HTa3b := Lib.hid (hTa.far (p := ⟨g + 1 + k, k, none⟩) (by show g + 1 + k < ga; omega) (.bool true))
      have HPb : Hid (StarP Ta (Star (Sp s.data.toList a)) s.size k (k + 1) (k + 1) (upd T k k true)) := HP.out.open_ (fun i => .refl i)
      clear hI hTa e1
      go_wp2_with fail
      obtain ⟨wm, hwm⟩ : ∃ wm : World, wm = wr := ⟨_, rfl⟩
      rw [← hwm] at HI3b HTa3b ⊢
      clear hwm
      go_loopw [20] (fun i wi => ∃ (m : Nat) (T : Nat → Nat → Bool), k + 1 ≤ m ∧ m ≤ s.size + 1 ∧ i = .int .i64 m ∧ Hid (StarP Ta (Star (Sp s.data.toList a)) s.size k m m T) ∧ SpI w box g (s.size + 1) wi T ∧ Tab wi ga (s.size + 1) Ta) (fun i _ => s.size + 1 - (intOf i).toNat)
      case atStart => exact ⟨k + 1, _, Nat.le_refl _, by omega, by go_num, HPb, HI3b.out, HTa3b.out⟩
      case round =>
        obtain ⟨m, T1, hkm, hm, rfl, HP1, hI, hTa⟩ := hrel
        have HI4 := Lib.hid hI
        have HTa4 := Lib.hid hTa
        clear hI hTa
        by_cases hlm : m < s.size + 1
        · have j0 : (0 : Int) ≤ (m : Int) := by omega
          have j1 : (m : Int) ≤ (s.size : Int) := by omega
          have j2 : (m : Int) < (s.size : Int) + 1 := by omega
          go_wp2_with fail
          obtain ⟨wn, hwn⟩ : ∃ wn : World, wn = wr := ⟨_, rfl⟩
          rw [← hwn] at HI4 HTa4 ⊢
          clear hwn
          go_loopw [21] (fun i wi => ∃ (j : Nat) (T : Nat → Nat → Bool), m ≤ j ∧ j ≤ s.size + 1 ∧ i = .int .i64 j ∧ Hid (StarP Ta (Star (Sp s.data.toList a)) s.size k m j T) ∧ SpI w box g (s.size + 1) wi T ∧ Tab wi ga (s.size + 1) Ta) (fun i _ => s.size + 1 - (intOf i).toNat)
          case atStart => exact ⟨m, T1, Nat.le_refl _, by omega, rfl, HP1, HI4.out, HTa4.out⟩
          case round =>
            obtain ⟨j, T2, hmj, hj, rfl, HP2, hI, hTa⟩ := hrel
            have HI5 := Lib.hid hI
            have HTa5 := Lib.hid hTa
            by_cases hlj : j < s.size + 1
            · have l0 : (0 : Int) ≤ (j : Int) := by omega
              have l1 : (j : Int) ≤ (s.size : Int) := by omega
              have l2 : (j : Int) < (s.size : Int) + 1 := by omega
              obtain ⟨y0, y1, _⟩ := hTa.facts hlt hlm
              cases hv : Ta k m with
              | false =>
                rw [hv] at y1
                have HP3 := Lib.hid (HP2.out.skip hv)
                clear hI hTa hv
                go_wp2_with fail
                go_roundw
                case rel => exact ⟨m + 1, T2, by omega, by omega, by go_num, HP3, HI5.out, HTa5.out⟩
                case measure => simp [intOf]; omega
              | true =>
                rw [hv] at y1
                obtain ⟨x0, x1, x2⟩ := hI.tab.facts hlt hlj
                obtain ⟨z0, z1, _⟩ := hI.tab.facts hlm hlj
                have HNa := fun v => Lib.hid (HTa5.out.far (p := ⟨g + 1 + k, j, none⟩) (by show g + 1 + k < ga; omega) (.bool v)).drew
                have HNI := fun v => Lib.hid (HI5.out.set_ hlt hlj v).drew
                have HPV := Lib.hid fun v hv2 => HP2.out.set_ (v := v) (by omega) (by omega) (by omega) hmj hv hv2
                clear hI hTa hv
                cases hx : T2 k j with
                | true =>
                  rw [hx] at x1
                  have HP3 := Lib.hid (HPV.out true (by rw [hx]; rfl))
                  clear hx
                  go_wp2_with fail
                  go_region
                  all_goals go_wp2_with fail
                  all_goals first
                    | exact ⟨⟨j + 1, _, by omega, by omega, by go_num, HP3, (HNI true).out, (HNa true).out⟩, by simp [intOf]; omega⟩
                    | (go_roundw
                       case rel => exact ⟨j + 1, _, by omega, by omega, by go_num, HP3, (HNI true).out, (HNa true).out⟩
                       case measure => simp [intOf]; omega)
                | false =>
                  rw [hx] at x1
                  obtain ⟨v, hv2⟩ : ∃ v, v = T2 m j := ⟨_, rfl⟩
                  rw [← hv2] at z1
                  have HP3 := Lib.hid (HPV.out v (by rw [hx, hv2]; rfl))
                  clear hx hv2
                  go_wp2_with fail
                  go_region
                  all_goals go_wp2_with fail
                  all_goals first
                    | exact ⟨⟨j + 1, _, by omega, by omega, by go_num, HP3, (HNI v).out, (HNa v).out⟩, by simp [intOf]; omega⟩
                    | (go_roundw
                       case rel => exact ⟨j + 1, _, by omega, by omega, by go_num, HP3, (HNI v).out, (HNa v).out⟩
                       case measure => simp [intOf]; omega)
            · obtain rfl : j = s.size + 1 := by omega
              have HP3 := Lib.hid HP2.out.next
              clear hI hTa
              go_wp2_with fail
              go_roundw
              case rel => exact ⟨m + 1, T2, by omega, by omega, by go_num, HP3, HI5.out, HTa5.out⟩
              case measure => simp [intOf]; omega
        · obtain rfl : m = s.size + 1 := by omega
          have HP2 : Hid (RowsP (Star (Sp s.data.toList a)) s.size k T1) := by
            have := StarP.close (s := s.data.toList) (a := a) (Ta := Ta) (T := T1) (k := k) (jj := s.size + 1) (by rw [lst_len]; exact HP1.out) (by rw [lst_len]; omega) HSa.out
            rw [lst_len] at this; exact this
          go_wp2_with fail
          go_roundw
          case rel => exact ⟨k, T1, by omega, by go_num, HP2, HI4.out, HTa4.out⟩
          case measure => simp [intOf]
    · obtain rfl : r = 0 := by omega
      have HF : Hid (SpT s.data.toList (.star a) T) := RowsP.all (by rw [lst_len]; exact HP.out)
      clear hI hTa
      go_wp2_with fail
      go_ret
      exact ⟨g, _, rfl, HI3.out.tab, by omega, HI3.out.below, HF.out⟩
end
end Go.Proofs.Ytckinkapbfaceaa
