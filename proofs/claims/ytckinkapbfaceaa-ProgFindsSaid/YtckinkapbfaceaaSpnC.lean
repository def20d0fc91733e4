/- Walks: wickref.spans at an alternative. -/
import Derived.Test.YtckinkapbfaceaaSpnA
import Derived.Deep.RegionHeld3
namespace Go.Proofs.Ytckinkapbfaceaa
open Go.RowKit
set_option linter.unusedVariables false
set_option linter.unusedSimpArgs false

/-- the rows up to k done, of row k the places up to m -/
def altT (Ta Tb : Nat → Nat → Bool) (k m i j : Nat) : Bool := decide (i ≤ j ∧ (i < k ∨ (i = k ∧ j < m))) && (Ta i j || Tb i j)
theorem altT_set {Ta Tb : Nat → Nat → Bool} {k m : Nat} {v : Bool} (hkm : k ≤ m) (hv : v = (Ta k m || Tb k m)) (i j : Nat) : upd (altT Ta Tb k m) k m v i j = altT Ta Tb k (m + 1) i j := by
  rw [upd_if]
  unfold altT
  by_cases h : i = k ∧ j = m
  · rw [if_pos h, hv, h.1, h.2, decide_eq_true (by omega), Bool.true_and]
  · rw [if_neg h]
    congr 1
    rw [Bool.eq_iff_iff, decide_eq_true_eq, decide_eq_true_eq]; omega
theorem altT_next {Ta Tb : Nat → Nat → Bool} {k N : Nat} (i j : Nat) (hj : j < N) : altT Ta Tb k N i j = altT Ta Tb (k + 1) (k + 1) i j := by
  unfold altT
  congr 1
  rw [Bool.eq_iff_iff, decide_eq_true_eq, decide_eq_true_eq]; omega
section
variable (s : ByteArray) (a c : Re) (ca cc : List Value) (IHa : SpansOk s a) (IHc : SpansOk s c) (D : Nat) (w : World) (A : Option Addr) (cp : Nat)
set_option maxRecDepth 100000 in
set_option maxHeartbeats 8000000 in
include IHa IHc in
theorem spans_alt (hs : s.size ≤ 60) (hD : D ≤ w.heap.size) (h1 : At6 w D A 0 ca) (h2 : At6 w D A 1 cc) (ha : ReC w D a ca) (hc : ReC w D c cc) (hcap : 2 ≤ cp) (hcap2 : cp ≤ 9223372036854775807) :
    Calls Try.prog 57 #[.agg #[.int .i64 5, .int .u64 0, .int .u64 0, .int .u64 0, .int .u64 0, .slice A 2 cp], .string s] w (SpansRes s (.alt a c) w) := by
  obtain ⟨ad, rfl⟩ : ∃ ad, A = some ad := ⟨_, h1.choose_spec.1⟩
  obtain ⟨a0, a1, a2, a3, a4, A5, l5, cap5, rfl⟩ := re_cs ha
  obtain ⟨b0, b1, b2, b3, b4, B5, m5, capb, rfl⟩ := re_cs hc
  have hblw : ad.block < w.heap.size := by have := (kid_cells h1 (Below.refl _ _)).1; omega
  obtain ⟨box, hbox⟩ : ∃ box : Array Value, box = #[.int .i64 5, .int .u64 0, .int .u64 0, .int .u64 0, .int .u64 0, .slice (some ad) 2 cp] := ⟨_, rfl⟩
  obtain ⟨g, hg, CB⟩ := spans_pre w #[.int .i64 5, .int .u64 0, .int .u64 0, .int .u64 0, .int .u64 0, .slice (some ad) 2 cp] s hs
  rw [← hbox] at CB
  have CB := Lib.hid CB
  have H1 := Lib.hid fun w' (hk : Below D w w') => kid0 h1 hk
  have H2 := Lib.hid fun w' (hk : Below D w w') => kid1 h2 hk
  have HS : Hid (∀ w', SpI w box g (s.size + 1) w' (fun _ _ => false) → w'.cell? ⟨w.heap.size, 5, none⟩ = some (.slice (some ad) 2 cp) ∧ (w'.cell? ad = some (.int .i64 a0) ∧ w'.cell? ⟨ad.block, ad.off + 1, none⟩ = some (.int .u64 a1) ∧ w'.cell? ⟨ad.block, ad.off + 2, none⟩ = some (.int .u64 a2) ∧ w'.cell? ⟨ad.block, ad.off + 3, none⟩ = some (.int .u64 a3) ∧ w'.cell? ⟨ad.block, ad.off + 4, none⟩ = some (.int .u64 a4) ∧ w'.cell? ⟨ad.block, ad.off + 5, none⟩ = some (.slice A5 l5 cap5)) ∧ (w'.cell? ⟨ad.block, ad.off + 6, none⟩ = some (.int .i64 b0) ∧ w'.cell? ⟨ad.block, ad.off + 6 + 1, none⟩ = some (.int .u64 b1) ∧ w'.cell? ⟨ad.block, ad.off + 6 + 2, none⟩ = some (.int .u64 b2) ∧ w'.cell? ⟨ad.block, ad.off + 6 + 3, none⟩ = some (.int .u64 b3) ∧ w'.cell? ⟨ad.block, ad.off + 6 + 4, none⟩ = some (.int .u64 b4) ∧ w'.cell? ⟨ad.block, ad.off + 6 + 5, none⟩ = some (.slice B5 m5 capb))) :=
    fun w' h => ⟨by rw [h.blk.cell 5, hbox]; rfl, H1.out w' (h.below.mono hD), H2.out w' (h.below.mono hD)⟩
  have HK : Hid (∀ w' T, SpI w box g (s.size + 1) w' T → w'.cell? ⟨w.heap.size, 0, none⟩ = some (.int .i64 5)) := fun w' T h => by rw [h.blk.cell 0, hbox]; rfl
  have CA := Lib.hid fun w' (h : SpI w box g (s.size + 1) w' (fun _ _ => false)) => IHa _ D w' (ha.below (h.below.mono hD)) (Nat.le_trans hD h.below.size)
  have CC := Lib.hid fun w' (h : SpI w box g (s.size + 1) w' (fun _ _ => false)) => IHc _ D w' (hc.below (h.below.mono hD)) (Nat.le_trans hD h.below.size)
  have HX := Lib.hid hbox
  clear ha hc h1 h2 IHa IHc hbox
  go_enter Try.func57, Try.ntmps57
  go_wp2_with fail
  rw [← HX.out]
  refine CB.out.mono ?_
  rintro e w1 ⟨rfl, hI⟩
  have HI := Lib.hid hI
  have k0 := HK.out _ _ hI
  clear hI CB
  go_wp2_with fail
  clear k0
  have hI := HI.out.drew
  have hN : 0 < s.size + 1 := by omega
  go_region_held3 (fun w' => w'.cell? ⟨w.heap.size, 5, none⟩ = some (.slice (some ad) 2 cp) ∧ (w'.cell? ad = some (.int .i64 a0) ∧ w'.cell? ⟨ad.block, ad.off + 1, none⟩ = some (.int .u64 a1) ∧ w'.cell? ⟨ad.block, ad.off + 2, none⟩ = some (.int .u64 a2) ∧ w'.cell? ⟨ad.block, ad.off + 3, none⟩ = some (.int .u64 a3) ∧ w'.cell? ⟨ad.block, ad.off + 4, none⟩ = some (.int .u64 a4) ∧ w'.cell? ⟨ad.block, ad.off + 5, none⟩ = some (.slice A5 l5 cap5)) ∧ (w'.cell? ⟨ad.block, ad.off + 6, none⟩ = some (.int .i64 b0) ∧ w'.cell? ⟨ad.block, ad.off + 6 + 1, none⟩ = some (.int .u64 b1) ∧ w'.cell? ⟨ad.block, ad.off + 6 + 2, none⟩ = some (.int .u64 b2) ∧ w'.cell? ⟨ad.block, ad.off + 6 + 3, none⟩ = some (.int .u64 b3) ∧ w'.cell? ⟨ad.block, ad.off + 6 + 4, none⟩ = some (.int .u64 b4) ∧ w'.cell? ⟨ad.block, ad.off + 6 + 5, none⟩ = some (.slice B5 m5 capb))) (exact HS.out _ (by assumption))
    (first
      | (go_at_call 57; (with_reducible refine (CA.out _ (by assumption)).mono ?_); rintro e w1 ⟨ga, Ta, rfl, hTa, hla, hba, hSa⟩; have hIa := SpI.call (by assumption) hN hba; (try have hTb := Tab.kept hTb hN hba))
      | (go_at_call 57; (with_reducible refine (CC.out _ (by assumption)).mono ?_); rintro e w2 ⟨gb, Tb, rfl, hTb, hlb, hbb, hSb⟩; have hIb := SpI.call (by assumption) hN hbb; (try have hTa := Tab.kept hTa hN hbb)))
  have HI2 := Lib.hid hIb
  have HTa := Lib.hid hTa
  have HTb := Lib.hid hTb
  have hga : g < ga := by have := HI.out.big; have h0 : w1.drew.heap.size = w1.heap.size := rfl; have := hIa.big; have := hI.big; omega
  have hgb : g < gb := by have := hIa.big; omega
  have hgaN : g + (s.size + 1) < ga := by have := hI.big; omega
  have hgbN : g + (s.size + 1) < gb := by have := hIa.big; omega
  have HSa := Lib.hid hSa
  have HSb := Lib.hid hSb
  clear hIb hIa hTa hTb hSa hSb hba hbb HS H1 H2 CA CC hI HI
  go_wp2_with fail
  go_loopw [11] (fun i wr => ∃ k : Nat, k ≤ s.size + 1 ∧ i = .int .i64 k ∧ SpI w box g (s.size + 1) wr (altT Ta Tb k k) ∧ Tab wr ga (s.size + 1) Ta ∧ Tab wr gb (s.size + 1) Tb) (fun i _ => s.size + 1 - (intOf i).toNat)
  case atStart => exact ⟨0, by omega, rfl, HI2.out.congr fun i j _ _ => by unfold altT; rw [decide_eq_false (by omega)]; rfl, HTa.out, HTb.out⟩
  case round =>
    obtain ⟨k, hk, rfl, hI, hTa, hTb⟩ := hrel
    have HI3 := Lib.hid hI
    have HTa3 := Lib.hid hTa
    have HTb3 := Lib.hid hTb
    clear hI hTa hTb
    by_cases hlt : k < s.size + 1
    · have i1 : (k : Int) ≤ (s.size : Int) := by omega
      have i2 : (k : Int) < (s.size : Int) + 1 := by omega
      go_wp2_with fail
      obtain ⟨wm, hwm⟩ : ∃ wm : World, wm = wr := ⟨_, rfl⟩
      rw [← hwm] at HI3 HTa3 HTb3 ⊢
      clear hwm
      go_loopw [12] (fun i wi => ∃ m : Nat, k ≤ m ∧ m ≤ s.size + 1 ∧ i = .int .i64 m ∧ SpI w box g (s.size + 1) wi (altT Ta Tb k m) ∧ Tab wi ga (s.size + 1) Ta ∧ Tab wi gb (s.size + 1) Tb) (fun i _ => s.size + 1 - (intOf i).toNat)
      case atStart => exact ⟨k, Nat.le_refl _, by omega, rfl, HI3.out, HTa3.out, HTb3.out⟩
      case round =>
        obtain ⟨m, hkm, hm, rfl, hI, hTa, hTb⟩ := hrel
        have HI4 := Lib.hid hI
        have HTa4 := Lib.hid hTa
        have HTb4 := Lib.hid hTb
        by_cases hlm : m < s.size + 1
        · have j0 : (0 : Int) ≤ (m : Int) := by omega
          have j1 : (m : Int) ≤ (s.size : Int) := by omega
          have j2 : (m : Int) < (s.size : Int) + 1 := by omega
          have j3 : (0 : Int) ≤ (k : Int) := by omega
          obtain ⟨x0, x1, x2⟩ := hI.tab.facts hlt hlm
          obtain ⟨y0, y1, _⟩ := hTa.facts hlt hlm
          obtain ⟨z0, z1, _⟩ := hTb.facts hlt hlm
          have HNa := fun v => Lib.hid (HTa4.out.far (p := ⟨g + 1 + k, m, none⟩) (by show g + 1 + k < ga; omega) (.bool v)).drew
          have HNb := fun v => Lib.hid (HTb4.out.far (p := ⟨g + 1 + k, m, none⟩) (by show g + 1 + k < gb; omega) (.bool v)).drew
          clear hI hTa hTb
          cases hv : Ta k m with
          | true =>
            rw [hv] at y1
            have HN := Lib.hid ((HI4.out.set_ hlt hlm true).congr fun i j _ _ => altT_set hkm (by rw [hv]; rfl) i j).drew
            clear hv
            go_wp2_with fail
            go_region
            all_goals go_wp2_with fail
            all_goals first
              | exact ⟨⟨m + 1, by omega, by omega, by go_num, HN.out, (HNa true).out, (HNb true).out⟩, by simp [intOf]; omega⟩
              | (go_roundw
                 case rel => exact ⟨m + 1, by omega, by omega, by go_num, HN.out, (HNa true).out, (HNb true).out⟩
                 case measure => simp [intOf]; omega)
          | false =>
            rw [hv] at y1
            obtain ⟨v, hv2⟩ : ∃ v, v = Tb k m := ⟨_, rfl⟩
            rw [← hv2] at z1
            have HN := Lib.hid ((HI4.out.set_ hlt hlm v).congr fun i j _ _ => altT_set hkm (by rw [hv, hv2]; rfl) i j).drew
            clear hv hv2
            go_wp2_with fail
            go_region
            all_goals go_wp2_with fail
            all_goals first
              | exact ⟨⟨m + 1, by omega, by omega, by go_num, HN.out, (HNa v).out, (HNb v).out⟩, by simp [intOf]; omega⟩
              | (go_roundw
                 case rel => exact ⟨m + 1, by omega, by omega, by go_num, HN.out, (HNa v).out, (HNb v).out⟩
                 case measure => simp [intOf]; omega)
        · obtain rfl : m = s.size + 1 := by omega
          clear hI hTa hTb
          go_wp2_with fail
          go_roundw
          case rel => exact ⟨k + 1, by omega, by go_num, HI4.out.congr fun i j _ hj => altT_next i j hj, HTa4.out, HTb4.out⟩
          case measure => simp [intOf]; omega
    · obtain rfl : k = s.size + 1 := by omega
      go_wp2_with fail
      go_ret
      refine ⟨g, _, rfl, HI3.out.tab, by omega, HI3.out.below, fun i j hi hj => ?_⟩
      have h1 := HSa.out i j hi hj
      have h2 := HSb.out i j hi hj
      rw [lst_len] at hi hj
      unfold altT
      rw [Bool.and_eq_true, decide_eq_true_eq, Bool.or_eq_true, h1, h2]
      constructor
      · rintro ⟨_, h⟩; exact h
      · intro h
        exact ⟨⟨(sp_le _ _ _ _ h).1, .inl (by omega)⟩, h⟩
end
end Go.Proofs.Ytckinkapbfaceaa
