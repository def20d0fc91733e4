/- Walks: rex.closed. -/
import Derived.Test.YtckinkapbfaceaaEndA
import Derived.Test.YtckinkapbfaceaaKept
import Derived.Deep.LoopGhost
import Derived.Maps.AppendAt
namespace Go.Proofs.Ytckinkapbfaceaa
open Go.RowKit
set_option linter.unusedVariables false
set_option linter.unusedSimpArgs false

theorem BoR.keptOff {w w' : World} {b g N : Nat} {f : Nat → Bool} (h : BoR w b N f) (hk : KeptOff w w' g) (hne : b ≠ g) : BoR w' b N f := by
  have e : w'.heap[b]? = w.heap[b]? := hk.block b h.lt (by intro e; injection e with e; exact hne e)
  exact ⟨Nat.lt_of_lt_of_le h.lt hk.size, fun i hi => (World.cell?_of_block (a := ⟨b, i, none⟩) e).trans (h.cell i hi), fun i hi => (World.frozen?_of_block (a := ⟨b, i, none⟩) e).trans (h.frozen i hi)⟩
/-- how many of the first n are false -/
def cntF (f : Nat → Bool) : Nat → Nat
  | 0 => 0
  | n + 1 => cntF f n + if f n = true then 0 else 1
theorem cntF_le {f g : Nat → Bool} : ∀ {n : Nat}, (∀ j, j < n → f j = true → g j = true) → cntF g n ≤ cntF f n
  | 0, _ => Nat.le_refl _
  | n + 1, h => by
    have h1 := cntF_le (n := n) fun j hj => h j (by omega)
    have h2 := h n (by omega)
    unfold cntF
    cases hf : f n with
    | true => rw [h2 hf]; simp; exact h1
    | false => cases g n <;> simp <;> omega
theorem cntF_lt {f g : Nat → Bool} : ∀ {n : Nat} (k : Nat), (∀ j, j < n → f j = true → g j = true) → k < n → f k = false → g k = true → cntF g n < cntF f n
  | 0, _, _, hk, _, _ => absurd hk (by omega)
  | n + 1, k, h, hk, hf, hg => by
    have h1 := cntF_le (n := n) fun j hj => h j (by omega)
    unfold cntF
    by_cases e : k = n
    · subst e; rw [hf, hg]; simp; omega
    · have h3 := cntF_lt (n := n) k (fun j hj => h j (by omega)) (by omega) hf hg
      have h2 := h n (by omega)
      cases hfn : f n with
      | true => rw [h2 hfn]; simp; exact h3
      | false => cases g n <;> simp <;> omega
/-- o seen up to i -/
def mixB (g o : Nat → Bool) (i j : Nat) : Bool := g j || (decide (j < i) && o j)
def anyB (g o : Nat → Bool) (i : Nat) : Bool := (List.range i).any fun j => o j && !g j
theorem mixB_at (g o : Nat → Bool) (i : Nat) : mixB g o i i = g i := by unfold mixB; simp
theorem mixB_hit {g o : Nat → Bool} {i : Nat} (h : o i = true) (j : Nat) : (if j = i then true else mixB g o i j) = mixB g o (i + 1) j := by
  unfold mixB
  by_cases e : j = i
  · subst e; simp [h]
  · rw [if_neg e]
    congr 2
    rw [Bool.eq_iff_iff, decide_eq_true_eq, decide_eq_true_eq]; omega
theorem mixB_skip {g o : Nat → Bool} {i : Nat} (h : o i = false ∨ g i = true) (j : Nat) : mixB g o i j = mixB g o (i + 1) j := by
  unfold mixB
  by_cases e : j = i
  · subst e
    rcases h with h | h
    · simp [h]
    · simp [h]
  · congr 2
    rw [Bool.eq_iff_iff, decide_eq_true_eq, decide_eq_true_eq]; omega
theorem anyB_hit {g o : Nat → Bool} {i : Nat} (h : o i = true) (h2 : g i = false) : anyB g o (i + 1) = true := by
  unfold anyB; rw [List.range_succ, List.any_append]; simp [h, h2]
theorem anyB_skip {g o : Nat → Bool} {i : Nat} (h : o i = false ∨ g i = true) : anyB g o (i + 1) = anyB g o i := by
  unfold anyB; rw [List.range_succ, List.any_append]
  rcases h with h | h <;> simp [h]
theorem anyB_yes {g o : Nat → Bool} {n : Nat} (h : anyB g o n = true) : ∃ k, k < n ∧ g k = false ∧ o k = true := by
  unfold anyB at h
  obtain ⟨k, hk, h⟩ := List.any_eq_true.1 h
  rw [Bool.and_eq_true, Bool.not_eq_true'] at h
  exact ⟨k, List.mem_range.1 hk, h.2, h.1⟩
theorem anyB_no {g o : Nat → Bool} {n : Nat} (h : anyB g o n = false) (j : Nat) (hj : j < n) (ho : o j = true) : g j = true := by
  unfold anyB at h
  have := List.any_eq_false.1 h j (List.mem_range.2 hj)
  rw [Bool.and_eq_true, Bool.not_eq_true'] at this
  cases hg : g j with
  | true => rfl
  | false => exact absurd ⟨ho, hg⟩ this
theorem ends_congr {s : List UInt8} {q : Re} {f f' g : Nat → Bool} (h : EndsP s q f g) (e : ∀ i, i ≤ s.length → f i = f' i) : EndsP s q f' g := fun j hj => by
  rw [h j hj]
  exact ⟨fun ⟨i, hi, k1, k2⟩ => ⟨i, hi, by rw [← e i hi]; exact k1, k2⟩, fun ⟨i, hi, k1, k2⟩ => ⟨i, hi, by rw [e i hi]; exact k1, k2⟩⟩
def boolOf : Value → Bool
  | .bool b => b
  | _ => false
/-- append([]bool(nil), from...) -/
theorem BoR.reads {w : World} {b N : Nat} {f : Nat → Bool} (h : BoR w b N f) : Reads w (b + 1) 1 (some ⟨b, 0, none⟩) N ((List.range N).map fun i => Value.bool (f i)) :=
  ⟨by simp, fun hn => ⟨_, rfl, Nat.lt_succ_self b, fun j u hu => by
    have hadd : (⟨b, 0, none⟩ : Addr).add j = ⟨b, j, none⟩ := by unfold Addr.add; split <;> simp_all
    obtain ⟨hj, rfl⟩ := List.getElem?_eq_some_iff.1 hu
    simp only [List.length_map, List.length_range] at hj
    rw [hadd, h.cell j hj]; simp⟩⟩
theorem BoR.of_own {w : World} {B N : Nat} {v : Value} {f : Nat → Bool} (h : w.ownsRow B 4 1 v N ((List.range N).map fun i => Value.bool (f i))) (hN : 0 < N) :
    ∃ g cap, v = .slice (some ⟨g, 0, none⟩) N cap ∧ B ≤ g ∧ BoR w g N f := by
  have h' := h
  rcases h.2 with ⟨_, h2⟩ | ⟨g, cap, cur, rfl, hb, hh, _⟩
  · omega
  · exact ⟨g, cap, rfl, hb, Blk.lt (t := 4) (cs := cur) hh, fun i hi => by rw [World.ownsRow.cellAt h' i (by omega)]; simp [hi], fun i _ => World.ownsRow.frozenAt h' i⟩

set_option maxRecDepth 100000 in
set_option maxHeartbeats 4000000 in
theorem closed_any (s : ByteArray) (a : Re) (IH : EndsOk s a) (cs : List Value) (f : Nat → Bool) (b cap D : Nat) (w : World) (hs : s.size ≤ 300) (ha : ReC w D a cs) (hD : D ≤ w.heap.size) (hf : BoR w b (s.size + 1) f) :
    Calls Try.prog 80 #[.agg cs.toArray, .string s, .slice (some ⟨b, 0, none⟩) (s.size + 1) cap] w (EndsRes s (.star a) f w) := by
  obtain ⟨a0, a1, a2, a3, a4, A5, l5, cap5, rfl⟩ := re_cs ha
  obtain ⟨W, hW⟩ : ∃ W, W = w.alloc (.cells #[.int .i64 a0, .int .u64 a1, .int .u64 a2, .int .u64 a3, .int .u64 a4, .slice A5 l5 cap5] 27) := ⟨_, rfl⟩
  have hWb : Below w.heap.size w W := by rw [hW]; exact (Below.refl _ _).alloc (Nat.le_refl _) _
  have hK : Blk W w.heap.size 27 #[.int .i64 a0, .int .u64 a1, .int .u64 a2, .int .u64 a3, .int .u64 a4, .slice A5 l5 cap5] := by rw [hW]; exact Blk.new _ _ _
  have hWlt : w.heap.size < W.heap.size := hK.lt
  have hfl := hf.lt
  have C := Lib.hid fun w1 (hb : Below w.heap.size w w1) (g : Nat → Bool) bg c (hg : BoR w1 bg (s.size + 1) g) => IH _ g bg c D w1 (ha.below (hb.mono hD)) (Nat.le_trans hD hb.size) hg
  have HR := Lib.hid (hf.kept hWb).reads
  have HK := Lib.hid hK
  have HW := Lib.hid hW
  have HWB := Lib.hid hWb
  obtain ⟨i0, hi0, hz0, hz1, hz2⟩ := info_parts infoBool
  clear hW hWb hK ha hf IH
  go_enter Try.func80, Try.ntmps80
  go_wp2_with (at_builtin; rw [← HW.out]; refine wpList_append_any W rfl (.const (.slice none 0 0)) (.tmp 11) 100 rfl W.heap.size 4 i0 (.bool false) 1 1 Try.underlying100 hi0 hz0 hz1 hz2 rfl (by decide) (.slice none 0 0) 0 [] rfl (World.ownsRow_nil _ _ _ _) (b + 1) (some ⟨b, 0, none⟩) (s.size + 1) cap _ rfl HR.out (by intro u hu; obtain ⟨i, _, rfl⟩ := List.mem_map.1 hu; rfl) (by unfold maxLen; omega) (by omega) (Nat.le_refl _) ?_; intro v1 w1 ho1 hg1 _; rw [List.nil_append, Nat.zero_add] at ho1; obtain ⟨gb, c1, rfl, hgb, hr1⟩ := BoR.of_own ho1 (by omega); have HR1 := Lib.hid hr1; have HB1 := Lib.hid (Below.grown (Below.refl W.heap.size W) hg1 (Nat.le_refl _) (fun g e => by cases e)); clear ho1 hg1 hr1)
  clear hi0 hz0 hz1 hz2
  go_loopg [8] (2 * cntF f (s.size + 1) + 1) (fun q u wr => ∃ (g : Nat → Bool) (m : Bool), u = .bool m ∧ q = 2 * cntF g (s.size + 1) + (if m = true then 1 else 0) ∧ BoR wr gb (s.size + 1) g ∧ Hid (Gath s.data.toList a f g) ∧ Hid (m = false → ∃ o, EndsP s.data.toList a g o ∧ ∀ j, j ≤ s.size → o j = true → g j = true) ∧ Below W.heap.size W wr)
  case atStart => exact ⟨f, true, rfl, by simp, HR1.out, gath_start f a, fun h => (by cases h), HB1.out⟩
  case round =>
    obtain ⟨g, m, rfl, hq, hr, HG, HM, hb⟩ := hrel
    have HQ := Lib.hid hq
    have HRg := Lib.hid hr
    have HB := Lib.hid hb
    have hz := hb.size
    have hgbl := hr.lt
    cases m with
    | false =>
      obtain ⟨o, h1, h2⟩ := HM.out rfl
      have HS := Lib.hid (ends_star HG.out h1 (fun j hj k => h2 j (by rw [← lst_len]; exact hj) k))
      clear hb hr hq HM h1 h2
      go_wp2_with fail
      go_ret
      exact ⟨gb, c1, g, rfl, HRg.out, by omega, HWB.out.trans (HB.out.mono (by omega)), HS.out⟩
    | true =>
      have hK1 := HK.out.below hb hWlt
      have k0 : wr.cell? ⟨w.heap.size, 0, none⟩ = some (.int .i64 a0) := hK1.cell 0
      have k1 : wr.cell? ⟨w.heap.size, 1, none⟩ = some (.int .u64 a1) := hK1.cell 1
      have k2 : wr.cell? ⟨w.heap.size, 2, none⟩ = some (.int .u64 a2) := hK1.cell 2
      have k3 : wr.cell? ⟨w.heap.size, 3, none⟩ = some (.int .u64 a3) := hK1.cell 3
      have k4 : wr.cell? ⟨w.heap.size, 4, none⟩ = some (.int .u64 a4) := hK1.cell 4
      have k5 : wr.cell? ⟨w.heap.size, 5, none⟩ = some (.slice A5 l5 cap5) := hK1.cell 5
      have CE := Lib.hid (C.out wr (HWB.out.trans (hb.mono (by omega))) g gb c1 hr)
      clear hK1 hb hr hq HM
      go_wp2_with fail
      refine CE.out.mono ?_
      rintro e w2 ⟨be, ce, o, rfl, hro, hbe, hb2, hE⟩
      have HRo := Lib.hid hro
      have HRg2 := Lib.hid (HRg.out.kept hb2)
      have HB2 := Lib.hid (HB.out.trans (hb2.mono hz))
      have HE := Lib.hid hE
      have hz2 : wr.heap.size ≤ w2.heap.size := hb2.size
      have hne : be ≠ gb := by omega
      have hbl := hro.lt
      clear hro hb2 hE k0 k1 k2 k3 k4 k5 CE
      go_wp2_with fail
      obtain ⟨wm, hwm⟩ : ∃ wm : World, wm = wr := ⟨_, rfl⟩
      rw [← hwm] at hbe hz2 hz hgbl
      clear hwm
      go_loopw [8, 19] (fun u i wi => ∃ k : Nat, k ≤ s.size + 1 ∧ i = .int .i64 k ∧ u = .bool (anyB g o k) ∧ BoR wi gb (s.size + 1) (mixB g o k) ∧ KeptOff w2 wi gb) (fun _ i _ => s.size + 1 - (intOf i).toNat)
      case atStart => exact ⟨0, by omega, rfl, rfl, HRg2.out.congr fun j _ => by unfold mixB; simp, KeptOff.refl⟩
      case round =>
        obtain ⟨k, hk, rfl, rfl, hm, hkp⟩ := hrel
        have HMx := Lib.hid hm
        have HKp := Lib.hid hkp
        by_cases hlk : k < s.size + 1
        · have x0 := (HRo.out.keptOff hkp hne).cell k hlk
          have y0 := hm.cell k hlk
          rw [mixB_at] at y0
          have y1 := hm.frozen k hlk
          have i1 : (k : Int) < (s.size : Int) + 1 := by omega
          clear hm hkp
          cases hok : o k with
          | false =>
            rw [hok] at x0
            have HN := Lib.hid (HMx.out.congr fun j _ => mixB_skip (g := g) (.inl hok) j)
            have HA : Hid (anyB g o (k + 1) = anyB g o k) := anyB_skip (.inl hok)
            clear hok
            go_wp2_with fail
            go_roundw
            case rel => exact ⟨k + 1, by omega, by go_num, by rw [HA.out], HN.out, HKp.out⟩
            case measure => simp [intOf]; omega
          | true =>
            rw [hok] at x0
            cases hgk : g k with
            | true =>
              rw [hgk] at y0
              have HN := Lib.hid (HMx.out.congr fun j _ => mixB_skip (o := o) (.inr hgk) j)
              have HA : Hid (anyB g o (k + 1) = anyB g o k) := anyB_skip (.inr hgk)
              clear hok hgk
              go_wp2_with fail
              go_roundw
              case rel => exact ⟨k + 1, by omega, by go_num, by rw [HA.out], HN.out, HKp.out⟩
              case measure => simp [intOf]; omega
            | false =>
              rw [hgk] at y0
              have HN := Lib.hid ((HMx.out.set_ hlk true).congr fun j _ => mixB_hit (g := g) hok j)
              have HA : Hid (anyB g o (k + 1) = true) := anyB_hit hok hgk
              have HK2 := Lib.hid (HKp.out.set_ k (.bool true))
              clear hok hgk
              go_wp2_with fail
              go_roundw
              case rel => exact ⟨k + 1, by omega, by go_num, by rw [HA.out], HN.out, HK2.out⟩
              case measure => simp [intOf]; omega
        · obtain rfl : k = s.size + 1 := by omega
          clear hm hkp
          go_wp2_with fail
          have hmono : ∀ j, j < s.size + 1 → g j = true → mixB g o (s.size + 1) j = true := fun j _ h => by unfold mixB; rw [h]; rfl
          go_roundg (2 * cntF (mixB g o (s.size + 1)) (s.size + 1) + (if anyB g o (s.size + 1) = true then 1 else 0))
          case measure =>
            have h1 := cntF_le hmono
            have h0 := HQ.out
            simp only [if_true] at h0
            rw [h0]
            cases hA : anyB g o (s.size + 1) with
            | false => simp; omega
            | true =>
              obtain ⟨k, hk, h2, h3⟩ := anyB_yes hA
              have := cntF_lt k hmono hk h2 (by unfold mixB; rw [h3, decide_eq_true hk, Bool.and_self, Bool.or_true])
              simp; omega
          case rel =>
            refine ⟨mixB g o (s.size + 1), anyB g o (s.size + 1), rfl, rfl, HMx.out, gath_step HG.out HE.out (fun j hj h => ?_) (fun j hj h => hmono j (by rw [← lst_len]; omega) h), fun hA => ⟨o, ends_congr HE.out fun i hi => ?_, fun j hj h => ?_⟩, HB2.out.trans (HKp.out.below (by omega) hgb)⟩
            · unfold mixB at h
              rw [Bool.or_eq_true, Bool.and_eq_true] at h
              exact h.imp id And.right
            · have hno := anyB_no hA i (by rw [← lst_len]; omega)
              unfold mixB
              cases hg : g i with
              | true => rfl
              | false =>
                cases ho : o i with
                | true => rw [hno ho] at hg; cases hg
                | false => simp
            · have hno := anyB_no hA j (by omega) h
              unfold mixB; rw [hno]; rfl
end Go.Proofs.Ytckinkapbfaceaa
