/- Walks: rex.ends whole. -/
import Derived.Test.YtckinkapbfaceaaEndB
import Derived.Test.YtckinkapbfaceaaEndC
import Derived.Deep.RegionHeld3
namespace Go.Proofs.Ytckinkapbfaceaa
open Go.RowKit
set_option linter.unusedVariables false
set_option linter.unusedSimpArgs false

/-- under way: the box of the argument -/
structure ESt (w : World) (box : Array Value) (w' : World) : Prop where
  below : Below w.heap.size w w'
  blk : Blk w' w.heap.size 27 box
section
variable {w w1 w2 : World} {box : Array Value}
theorem ESt.step (h : ESt w box w1) (hb : Below w1.heap.size w1 w2) : ESt w box w2 := ⟨h.below.trans (hb.mono h.below.size), h.blk.below hb h.blk.lt⟩
theorem ESt.drew (h : ESt w box w1) : ESt w box w1.drew := ⟨h.below.drew, h.blk.drew⟩
end
section
variable (s : ByteArray) (a c : Re) (ca cc : List Value) (IHa : EndsOk s a) (IHc : EndsOk s c) (f : Nat → Bool) (b cap D : Nat) (w : World) (A : Option Addr) (cp : Nat)
set_option maxRecDepth 100000 in
set_option maxHeartbeats 4000000 in
include IHa IHc in
theorem ends_cat_any (hs : s.size ≤ 300) (hD : D ≤ w.heap.size) (h1 : At6 w D A 0 ca) (h2 : At6 w D A 1 cc) (ha : ReC w D a ca) (hc : ReC w D c cc) (hcap : 2 ≤ cp) (hcap2 : cp ≤ 9223372036854775807) (hf : BoR w b (s.size + 1) f) :
    Calls Try.prog 56 #[.agg #[.int .i64 4, .int .u64 0, .int .u64 0, .int .u64 0, .int .u64 0, .slice A 2 cp], .string s, .slice (some ⟨b, 0, none⟩) (s.size + 1) cap] w (EndsRes s (.cat a c) f w) := by
  obtain ⟨ad, rfl⟩ : ∃ ad, A = some ad := ⟨_, h1.choose_spec.1⟩
  obtain ⟨a0, a1, a2, a3, a4, A5, l5, cap5, rfl⟩ := re_cs ha
  obtain ⟨b0, b1, b2, b3, b4, B5, m5, capb, rfl⟩ := re_cs hc
  have hmk := make_bools' s.size (by omega)
  have hblw : ad.block < w.heap.size := by have := (kid_cells h1 (Below.refl _ _)).1; omega
  obtain ⟨box, hbox⟩ : ∃ box : Array Value, box = #[.int .i64 4, .int .u64 0, .int .u64 0, .int .u64 0, .int .u64 0, .slice (some ad) 2 cp] := ⟨_, rfl⟩
  obtain ⟨W, hW⟩ : ∃ W, W = (w.alloc (.cells #[.int .i64 4, .int .u64 0, .int .u64 0, .int .u64 0, .int .u64 0, .slice (some ad) 2 cp] 27)).alloc (.cells (madeCells #[.bool false] (s.size + 1)) 4) := ⟨_, rfl⟩
  have hS0 : ESt w box W := by
    rw [hW, ← hbox]; exact ⟨((Below.refl _ _).alloc (Nat.le_refl _) _).alloc (by simp) _, (Blk.new _ _ _).alloc _⟩
  have H1 := Lib.hid fun w' (hk : Below D w w') => kid0 h1 hk
  have H2 := Lib.hid fun w' (hk : Below D w w') => kid1 h2 hk
  have HS : Hid (∀ w', ESt w box w' → w'.cell? ⟨w.heap.size, 5, none⟩ = some (.slice (some ad) 2 cp) ∧ (w'.cell? ad = some (.int .i64 a0) ∧ w'.cell? ⟨ad.block, ad.off + 1, none⟩ = some (.int .u64 a1) ∧ w'.cell? ⟨ad.block, ad.off + 2, none⟩ = some (.int .u64 a2) ∧ w'.cell? ⟨ad.block, ad.off + 3, none⟩ = some (.int .u64 a3) ∧ w'.cell? ⟨ad.block, ad.off + 4, none⟩ = some (.int .u64 a4) ∧ w'.cell? ⟨ad.block, ad.off + 5, none⟩ = some (.slice A5 l5 cap5)) ∧ (w'.cell? ⟨ad.block, ad.off + 6, none⟩ = some (.int .i64 b0) ∧ w'.cell? ⟨ad.block, ad.off + 6 + 1, none⟩ = some (.int .u64 b1) ∧ w'.cell? ⟨ad.block, ad.off + 6 + 2, none⟩ = some (.int .u64 b2) ∧ w'.cell? ⟨ad.block, ad.off + 6 + 3, none⟩ = some (.int .u64 b3) ∧ w'.cell? ⟨ad.block, ad.off + 6 + 4, none⟩ = some (.int .u64 b4) ∧ w'.cell? ⟨ad.block, ad.off + 6 + 5, none⟩ = some (.slice B5 m5 capb))) :=
    fun w' h => ⟨by rw [h.blk.cell 5, hbox]; rfl, H1.out w' (h.below.mono hD), H2.out w' (h.below.mono hD)⟩
  have CA := Lib.hid fun w' (h : ESt w box w') => IHa _ f b cap D w' (ha.below (h.below.mono hD)) (Nat.le_trans hD h.below.size) (hf.kept h.below)
  have CB := Lib.hid fun w' (h : ESt w box w') (g : Nat → Bool) bg cg (hg : BoR w' bg (s.size + 1) g) => IHc _ g bg cg D w' (hc.below (h.below.mono hD)) (Nat.le_trans hD h.below.size) hg
  have HW := Lib.hid hW
  have HS0 := Lib.hid hS0
  have hblt := hf.lt
  clear hW hS0 ha hc h1 h2 IHa IHc hf
  go_enter Try.func56, Try.ntmps56
  go_wp2_with fail
  rw [← HW.out]
  clear hmk
  have hS := HS0.out.drew
  go_region_held3 (fun w' => w'.cell? ⟨w.heap.size, 5, none⟩ = some (.slice (some ad) 2 cp) ∧ (w'.cell? ad = some (.int .i64 a0) ∧ w'.cell? ⟨ad.block, ad.off + 1, none⟩ = some (.int .u64 a1) ∧ w'.cell? ⟨ad.block, ad.off + 2, none⟩ = some (.int .u64 a2) ∧ w'.cell? ⟨ad.block, ad.off + 3, none⟩ = some (.int .u64 a3) ∧ w'.cell? ⟨ad.block, ad.off + 4, none⟩ = some (.int .u64 a4) ∧ w'.cell? ⟨ad.block, ad.off + 5, none⟩ = some (.slice A5 l5 cap5)) ∧ (w'.cell? ⟨ad.block, ad.off + 6, none⟩ = some (.int .i64 b0) ∧ w'.cell? ⟨ad.block, ad.off + 6 + 1, none⟩ = some (.int .u64 b1) ∧ w'.cell? ⟨ad.block, ad.off + 6 + 2, none⟩ = some (.int .u64 b2) ∧ w'.cell? ⟨ad.block, ad.off + 6 + 3, none⟩ = some (.int .u64 b3) ∧ w'.cell? ⟨ad.block, ad.off + 6 + 4, none⟩ = some (.int .u64 b4) ∧ w'.cell? ⟨ad.block, ad.off + 6 + 5, none⟩ = some (.slice B5 m5 capb))) (exact HS.out _ (by assumption))
    (first
      | (go_at_call 56; (with_reducible refine (CA.out _ (by assumption)).mono ?_); rintro e w1 ⟨r1, c1, g1, rfl, hr1, hl1, hb1, he1⟩; have hS1 := ESt.step (by assumption) hb1)
      | (go_at_call 56; (with_reducible refine (CB.out _ (by assumption) _ _ _ (by assumption)).mono ?_); rintro e w2 ⟨r2, c2, g2, rfl, hr2, hl2, hb2, he2⟩; have hS2 := ESt.step (by assumption) hb2))
  all_goals
    have HR := Lib.hid hr2
    have HB := Lib.hid hS2.below
    have HE := Lib.hid (ends_cat he1 he2)
    have hz : w.heap.size ≤ r2 := by have := hS1.below.size; omega
    clear hr2 hS2 he1 he2 hr1 hS1 hb1 hb2 HS H1 H2 CA CB
    go_wp2_with fail
    go_ret
    exact ⟨r2, c2, g2, rfl, HR.out, hz, HB.out, HE.out⟩

/-- what is done at k of the two rows -/
def orB (g1 g2 : Nat → Bool) (k j : Nat) : Bool := decide (j < k) && (g1 j || g2 j)
theorem orB_set {g1 g2 : Nat → Bool} {k : Nat} {v : Bool} (hv : v = (g1 k || g2 k)) (j : Nat) : (if j = k then v else orB g1 g2 k j) = orB g1 g2 (k + 1) j := by
  unfold orB
  by_cases h : j = k
  · subst h; rw [if_pos rfl, hv]; simp
  · rw [if_neg h]
    congr 1
    rw [Bool.eq_iff_iff, decide_eq_true_eq, decide_eq_true_eq]; omega
set_option maxRecDepth 100000 in
set_option maxHeartbeats 4000000 in
include IHa IHc in
theorem ends_alt_any (hs : s.size ≤ 300) (hD : D ≤ w.heap.size) (h1 : At6 w D A 0 ca) (h2 : At6 w D A 1 cc) (ha : ReC w D a ca) (hc : ReC w D c cc) (hcap : 2 ≤ cp) (hcap2 : cp ≤ 9223372036854775807) (hf : BoR w b (s.size + 1) f) :
    Calls Try.prog 56 #[.agg #[.int .i64 5, .int .u64 0, .int .u64 0, .int .u64 0, .int .u64 0, .slice A 2 cp], .string s, .slice (some ⟨b, 0, none⟩) (s.size + 1) cap] w (EndsRes s (.alt a c) f w) := by
  obtain ⟨ad, rfl⟩ : ∃ ad, A = some ad := ⟨_, h1.choose_spec.1⟩
  obtain ⟨a0, a1, a2, a3, a4, A5, l5, cap5, rfl⟩ := re_cs ha
  obtain ⟨b0, b1, b2, b3, b4, B5, m5, capb, rfl⟩ := re_cs hc
  have hmk := make_bools' s.size (by omega)
  have hblw : ad.block < w.heap.size := by have := (kid_cells h1 (Below.refl _ _)).1; omega
  obtain ⟨box, hbox⟩ : ∃ box : Array Value, box = #[.int .i64 5, .int .u64 0, .int .u64 0, .int .u64 0, .int .u64 0, .slice (some ad) 2 cp] := ⟨_, rfl⟩
  obtain ⟨W, hW⟩ : ∃ W, W = (w.alloc (.cells #[.int .i64 5, .int .u64 0, .int .u64 0, .int .u64 0, .int .u64 0, .slice (some ad) 2 cp] 27)).alloc (.cells (madeCells #[.bool false] (s.size + 1)) 4) := ⟨_, rfl⟩
  have hS0 : ESt w box W := by
    rw [hW, ← hbox]; exact ⟨((Below.refl _ _).alloc (Nat.le_refl _) _).alloc (by simp) _, (Blk.new _ _ _).alloc _⟩
  have hO : BoR W (w.heap.size + 1) (s.size + 1) (fun _ => false) := by
    have := BoR.made (w.alloc (.cells #[.int .i64 5, .int .u64 0, .int .u64 0, .int .u64 0, .int .u64 0, .slice (some ad) 2 cp] 27)) (s.size + 1)
    rw [hW]; simpa using this
  have H1 := Lib.hid fun w' (hk : Below D w w') => kid0 h1 hk
  have H2 := Lib.hid fun w' (hk : Below D w w') => kid1 h2 hk
  have HS : Hid (∀ w', ESt w box w' → w'.cell? ⟨w.heap.size, 5, none⟩ = some (.slice (some ad) 2 cp) ∧ (w'.cell? ad = some (.int .i64 a0) ∧ w'.cell? ⟨ad.block, ad.off + 1, none⟩ = some (.int .u64 a1) ∧ w'.cell? ⟨ad.block, ad.off + 2, none⟩ = some (.int .u64 a2) ∧ w'.cell? ⟨ad.block, ad.off + 3, none⟩ = some (.int .u64 a3) ∧ w'.cell? ⟨ad.block, ad.off + 4, none⟩ = some (.int .u64 a4) ∧ w'.cell? ⟨ad.block, ad.off + 5, none⟩ = some (.slice A5 l5 cap5)) ∧ (w'.cell? ⟨ad.block, ad.off + 6, none⟩ = some (.int .i64 b0) ∧ w'.cell? ⟨ad.block, ad.off + 6 + 1, none⟩ = some (.int .u64 b1) ∧ w'.cell? ⟨ad.block, ad.off + 6 + 2, none⟩ = some (.int .u64 b2) ∧ w'.cell? ⟨ad.block, ad.off + 6 + 3, none⟩ = some (.int .u64 b3) ∧ w'.cell? ⟨ad.block, ad.off + 6 + 4, none⟩ = some (.int .u64 b4) ∧ w'.cell? ⟨ad.block, ad.off + 6 + 5, none⟩ = some (.slice B5 m5 capb))) :=
    fun w' h => ⟨by rw [h.blk.cell 5, hbox]; rfl, H1.out w' (h.below.mono hD), H2.out w' (h.below.mono hD)⟩
  have CA := Lib.hid fun w' (h : ESt w box w') => IHa _ f b cap D w' (ha.below (h.below.mono hD)) (Nat.le_trans hD h.below.size) (hf.kept h.below)
  have CB := Lib.hid fun w' (h : ESt w box w') => IHc _ f b cap D w' (hc.below (h.below.mono hD)) (Nat.le_trans hD h.below.size) (hf.kept h.below)
  have HW := Lib.hid hW
  have HS0 := Lib.hid hS0
  have HO := Lib.hid hO
  have hblt := hf.lt
  clear hW hS0 ha hc h1 h2 IHa IHc hf hO
  go_enter Try.func56, Try.ntmps56
  go_wp2_with fail
  rw [← HW.out]
  clear hmk
  have hS := HS0.out.drew
  have hro := HO.out.drew
  go_region_held3 (fun w' => w'.cell? ⟨w.heap.size, 5, none⟩ = some (.slice (some ad) 2 cp) ∧ (w'.cell? ad = some (.int .i64 a0) ∧ w'.cell? ⟨ad.block, ad.off + 1, none⟩ = some (.int .u64 a1) ∧ w'.cell? ⟨ad.block, ad.off + 2, none⟩ = some (.int .u64 a2) ∧ w'.cell? ⟨ad.block, ad.off + 3, none⟩ = some (.int .u64 a3) ∧ w'.cell? ⟨ad.block, ad.off + 4, none⟩ = some (.int .u64 a4) ∧ w'.cell? ⟨ad.block, ad.off + 5, none⟩ = some (.slice A5 l5 cap5)) ∧ (w'.cell? ⟨ad.block, ad.off + 6, none⟩ = some (.int .i64 b0) ∧ w'.cell? ⟨ad.block, ad.off + 6 + 1, none⟩ = some (.int .u64 b1) ∧ w'.cell? ⟨ad.block, ad.off + 6 + 2, none⟩ = some (.int .u64 b2) ∧ w'.cell? ⟨ad.block, ad.off + 6 + 3, none⟩ = some (.int .u64 b3) ∧ w'.cell? ⟨ad.block, ad.off + 6 + 4, none⟩ = some (.int .u64 b4) ∧ w'.cell? ⟨ad.block, ad.off + 6 + 5, none⟩ = some (.slice B5 m5 capb))) (exact HS.out _ (by assumption))
    (first
      | (go_at_call 56; (with_reducible refine (CA.out _ (by assumption)).mono ?_); rintro e w1 ⟨r1, c1, g1, rfl, hr1, hl1, hb1, he1⟩; have hS1 := ESt.step (by assumption) hb1; have hro := BoR.kept hro hb1; (try have hr2 := BoR.kept hr2 hb1))
      | (go_at_call 56; (with_reducible refine (CB.out _ (by assumption)).mono ?_); rintro e w2 ⟨r2, c2, g2, rfl, hr2, hl2, hb2, he2⟩; have hS2 := ESt.step (by assumption) hb2; have hro := BoR.kept hro hb2; (try have hr1 := BoR.kept hr1 hb2)))
  · have HRo := Lib.hid hro
    have HR1 := Lib.hid hr1
    have HR2 := Lib.hid hr2
    have HB := Lib.hid hS2.below
    have HE := Lib.hid fun g => ends_alt (g := g) he1 he2
    have hz : w.heap.size + 1 < w2.heap.size := hro.lt
    have hW2 : w.heap.size + 1 < W.heap.size := HO.out.lt
    have hn1 : r1 ≠ w.heap.size + 1 := by have := hS1.below.size; have := hS2.below.size; have h0 : W.drew.heap.size = W.heap.size := rfl; have h3 := hb1.size; have h4 := hb2.size; omega
    have hn2 : r2 ≠ w.heap.size + 1 := by have := hS1.below.size; have := hS2.below.size; have h0 : W.drew.heap.size = W.heap.size := rfl; have h3 := hb1.size; have h4 := hb2.size; omega
    have hlt1 := hr1.lt
    have hlt2 := hr2.lt
    clear hro hr1 hr2 hS1 hS2 he1 he2 hb1 hb2 HS H1 H2 CA CB hS
    go_wp2_with fail
    go_loopw [97] (fun i wr => ∃ k : Nat, k ≤ s.size + 1 ∧ i = .int .i64 k ∧ BoR wr (w.heap.size + 1) (s.size + 1) (orB g1 g2 k) ∧ KeptOff w2 wr (w.heap.size + 1)) (fun i _ => s.size + 1 - (intOf i).toNat)
    case atStart => exact ⟨0, by omega, rfl, HRo.out.congr fun j _ => by unfold orB; simp, KeptOff.refl⟩
    case round =>
      obtain ⟨k, hk, rfl, hm, hkp⟩ := hrel
      have HM := Lib.hid hm
      have HKp := Lib.hid hkp
      by_cases hlk : k < s.size + 1
      · have x0 := (HR1.out.keptOff hkp hn1).cell k hlk
        have y0 := (HR2.out.keptOff hkp hn2).cell k hlk
        have z0 := hm.cell k hlk
        have z1 := hm.frozen k hlk
        have i1 : (k : Int) < (s.size : Int) + 1 := by omega
        have HK2 := fun v => Lib.hid (HKp.out.set_ k v)
        clear hm hkp
        cases h1k : g1 k with
        | true =>
          rw [h1k] at x0
          have HN := Lib.hid ((HM.out.set_ hlk true).congr fun j _ => orB_set (g1 := g1) (g2 := g2) (by rw [h1k]; rfl) j)
          clear h1k
          go_wp2_with fail
          go_roundw
          case rel => exact ⟨k + 1, by omega, by go_num, HN.out, (HK2 _).out⟩
          case measure => simp [intOf]; omega
        | false =>
          rw [h1k] at x0
          have HN := Lib.hid ((HM.out.set_ hlk (g2 k)).congr fun j _ => orB_set (g1 := g1) (g2 := g2) (by rw [h1k]; rfl) j)
          clear h1k
          go_wp2_with fail
          go_roundw
          case rel => exact ⟨k + 1, by omega, by go_num, HN.out, (HK2 _).out⟩
          case measure => simp [intOf]; omega
      · obtain rfl : k = s.size + 1 := by omega
        clear hm hkp
        go_wp2_with fail
        go_ret
        exact ⟨w.heap.size + 1, s.size + 1, _, rfl, HM.out, by omega, HB.out.trans (HKp.out.below (Nat.le_of_lt (by omega)) (by omega)), HE.out _ fun j hj => by
          rw [lst_len] at hj
          unfold orB; rw [decide_eq_true (by omega), Bool.true_and]⟩

set_option maxRecDepth 100000 in
set_option maxHeartbeats 4000000 in
include IHa in
theorem ends_star_any (hs : s.size ≤ 300) (hD : D ≤ w.heap.size) (h1 : At6 w D A 0 ca) (ha : ReC w D a ca) (hcap : 1 ≤ cp) (hcap2 : cp ≤ 9223372036854775807) (hf : BoR w b (s.size + 1) f) :
    Calls Try.prog 56 #[.agg #[.int .i64 6, .int .u64 0, .int .u64 0, .int .u64 0, .int .u64 0, .slice A 1 cp], .string s, .slice (some ⟨b, 0, none⟩) (s.size + 1) cap] w (EndsRes s (.star a) f w) := by
  obtain ⟨ad, rfl⟩ : ∃ ad, A = some ad := ⟨_, h1.choose_spec.1⟩
  obtain ⟨a0, a1, a2, a3, a4, A5, l5, cap5, rfl⟩ := re_cs ha
  have hmk := make_bools' s.size (by omega)
  have hblw : ad.block < w.heap.size := by have := (kid_cells h1 (Below.refl _ _)).1; omega
  obtain ⟨W, hW⟩ : ∃ W, W = (w.alloc (.cells #[.int .i64 6, .int .u64 0, .int .u64 0, .int .u64 0, .int .u64 0, .slice (some ad) 1 cp] 27)).alloc (.cells (madeCells #[.bool false] (s.size + 1)) 4) := ⟨_, rfl⟩
  have hWb : Below w.heap.size w W := by rw [hW]; exact ((Below.refl _ _).alloc (Nat.le_refl _) _).alloc (by simp) _
  obtain ⟨d0, d1, d2, d3, d4, d5⟩ := kid0 h1 (Below.refl D w)
  have C := Lib.hid (closed_any s a IHa _ f b cap D W hs (ha.below (hWb.mono hD)) (Nat.le_trans hD hWb.size) (hf.kept hWb))
  have HW := Lib.hid hW
  have HWB := Lib.hid hWb
  have hblt := hf.lt
  clear hW ha h1 IHa hf hWb
  go_enter Try.func56, Try.ntmps56
  go_wp2_with fail
  rw [← HW.out]
  refine C.out.mono ?_
  rintro e w1 ⟨r1, c1, g1, rfl, hr1, hl1, hb1, he1⟩
  have HR := Lib.hid hr1
  have HB := Lib.hid (HWB.out.trans (hb1.mono HWB.out.size))
  have HE := Lib.hid he1
  have hz : w.heap.size ≤ r1 := Nat.le_trans HWB.out.size hl1
  clear hr1 hb1 he1 d0 d1 d2 d3 d4 d5 hmk
  go_wp2_with fail
  go_ret
  exact ⟨r1, c1, g1, rfl, HR.out, hz, HB.out, HE.out⟩
end

theorem ends_ok (s : ByteArray) (hs : s.size ≤ 300) : ∀ q : Re, EndsOk s q
  | .none => by rintro cs f b cap D w ⟨A, c, rfl⟩ hD hf; exact ends_none_any s f b cap w A c hs hf
  | .empty => by rintro cs f b cap D w ⟨A, c, rfl⟩ hD hf; exact ends_empty_any s f b cap w A c hs hf
  | .byte q => by rintro cs f b cap D w ⟨hq, hz, A, c, rfl⟩ hD hf; exact ends_byte_any s q f b cap w A c hq hs hf
  | .beg => by rintro cs f b cap D w ⟨A, c, rfl⟩ hD hf; exact ends_beg_any s f b cap w A c hs hf
  | .fin => by rintro cs f b cap D w ⟨A, c, rfl⟩ hD hf; exact ends_fin_any s f b cap w A c hs hf
  | .cat a c => by rintro cs f b cap D w ⟨A, cp, ca, cb, rfl, h1, h2, h3, h4, h5, h6⟩ hD hf; exact ends_cat_any s a c ca cb (ends_ok s hs a) (ends_ok s hs c) f b cap D w A cp hs hD h3 h4 h5 h6 h1 h2 hf
  | .alt a c => by rintro cs f b cap D w ⟨A, cp, ca, cb, rfl, h1, h2, h3, h4, h5, h6⟩ hD hf; exact ends_alt_any s a c ca cb (ends_ok s hs a) (ends_ok s hs c) f b cap D w A cp hs hD h3 h4 h5 h6 h1 h2 hf
  | .star a => by rintro cs f b cap D w ⟨A, cp, ca, rfl, h1, h2, h3, h4⟩ hD hf; exact ends_star_any s a ca (ends_ok s hs a) f b cap D w A cp hs hD h3 h4 h1 h2 hf
end Go.Proofs.Ytckinkapbfaceaa
