/- Plain: the same body read by places in the text (wickref.ReadMulti). -/
import Derived.Test.YtaepbpdcfmklpaaDoorMrdC
namespace Go.Proofs.YtaepbpdcfmklpaaDoor
open Go.RowKit
set_option linter.unusedVariables false
set_option linter.unusedSimpArgs false

/-- what stands behind place a -/
def tl (s : ByteArray) (a : Nat) : ByteArray := s.extract a s.size
theorem tl_lst (s : ByteArray) (a : Nat) : (tl s a).data.toList = s.data.toList.drop a := by
  unfold tl; rw [lst_ext, take_all s (Nat.le_refl _)]
theorem tl_size (s : ByteArray) (a : Nat) : (tl s a).size = s.size - a := by unfold tl; rw [ByteArray.size_extract]; omega
theorem tl_ext (s : ByteArray) (a i j : Nat) : (tl s a).extract i j = s.extract (a + i) (a + j) := by
  apply lst_inj
  rw [lst_ext, tl_lst, lst_ext, List.take_drop, List.drop_drop]
theorem tl_tl (s : ByteArray) (a i : Nat) (h : a ≤ s.size) : (tl s a).extract i (tl s a).size = tl s (a + i) := by
  rw [tl_ext, tl_size, show a + (s.size - a) = s.size by omega]; rfl
theorem tl_zero (s : ByteArray) : tl s 0 = s := by apply lst_inj; rw [tl_lst, List.drop_zero]
theorem at_pre (s t : ByteArray) (a : Nat) (h : a ≤ s.size) : atB s.data.toList (a : Int) t.data.toList = preB (tl s a) t := by
  unfold atB preB Lib.hasPrefix Lib.occAt
  rw [tl_lst, decide_eq_true (by omega), decide_eq_true (by rw [lst_len]; omega)]; rfl
theorem occ_ext {s t : ByteArray} {k : Nat} (h : Lib.occAt s.data.toList t.data.toList k = true) : s.extract k (k + t.size) = t := lst_inj ((occ_iff s t k).1 h)
/-- a look for t behind place a, and the cut there -/
theorem find_cut (s t : ByteArray) (a : Nat) (h : a ≤ s.size) : ((cutS (tl s a) t).2.2 = false ∧ fndL s.data.toList t.data.toList a = -1) ∨
    ∃ i : Nat, fndL s.data.toList t.data.toList a = ((a + i : Nat) : Int) ∧ a + i + t.size ≤ s.size ∧ cutS (tl s a) t = (s.extract a (a + i), tl s (a + i + t.size), true) ∧ s.extract (a + i) (a + i + t.size) = t := by
  have hf : fndL s.data.toList t.data.toList a = if 0 ≤ Lib.indexB (tl s a) t then (a : Int) + Lib.indexB (tl s a) t else -1 := by
    unfold fndL Lib.indexB
    rw [if_neg (by rw [lst_len]; omega), tl_lst]
  rcases Lib.index_spec (tl s a).data.toList t.data.toList with ⟨h1, _⟩ | ⟨i, h1, h2, h3, _⟩
  · have h1' : Lib.indexB (tl s a) t = -1 := h1
    left
    rw [cutS_miss h1', hf, h1']
    exact ⟨rfl, rfl⟩
  · have h1' : Lib.indexB (tl s a) t = i := h1
    have hr := Lib.index_room (tl s a).data.toList t.data.toList (by rw [h1]; omega)
    rw [h1, lst_len, lst_len, tl_size] at hr
    have hr2 : a + i + t.size ≤ s.size := by omega
    right
    refine ⟨i, by rw [hf, h1', if_pos (by omega)]; omega, hr2, ?_, ?_⟩
    · rw [cutS_hit h1' (by rw [tl_size]; omega), tl_ext, tl_tl s a _ h, Nat.add_zero, Nat.add_assoc]
    · have := occ_ext h3
      rw [tl_ext] at this
      rw [Nat.add_assoc]; exact this
theorem raw_tl {s : ByteArray} {a : Nat} (h : s.extract a (a + 2) = crlfB) (h2 : a + 2 ≤ s.size) : rawB (tl s (a + 2)) = tl s a := by
  apply lst_inj
  have e : ((s.data.toList.take (a + 2)).drop a) = [13, 10] := by rw [← lst_ext, h]; rfl
  unfold rawB
  rw [lst_app, tl_lst, tl_lst]
  have h3 : s.data.toList.drop a = (s.data.toList.drop a).take 2 ++ (s.data.toList.drop a).drop 2 := (List.take_append_drop 2 _).symm
  rw [h3, List.drop_drop, List.take_drop, e]
theorem val_tl {s t : ByteArray} {a i : Nat} {L : List UInt8} (h : s.extract a (a + 2) = crlfB) (h2 : a + 2 ≤ s.size) (h3 : s.extract (a + i) (a + i + t.size) = t) (h4 : a + i + t.size ≤ s.size) (ht : t.data.toList = 13 :: L) :
    valS (s.extract a (a + i)) = s.extract (a + 2) (max (a + i) (a + 2)) := by
  have e : (s.data.toList.drop a).take 2 = [13, 10] := by rw [List.take_drop, ← lst_ext, h]; rfl
  obtain ⟨D, hD⟩ : ∃ D, D = s.data.toList.drop a := ⟨_, rfl⟩
  have hDl : D.length = s.size - a := by rw [hD, List.length_drop, lst_len]
  have hts : 1 ≤ t.size := by rw [← lst_len, ht]; simp
  rw [← hD] at e
  apply lst_inj
  unfold valS
  rw [lst_mk, lst_ext, lst_ext, ← List.take_drop, ← hD]
  match i, h3, h4 with
  | 0, _, _ =>
    rw [Nat.max_eq_right (by omega), List.take_zero, List.drop_take_self]; rfl
  | 1, h3, h4 =>
    exfalso
    have h5 : (s.data.toList.drop (a + 1)).take t.size = 13 :: L := by rw [List.take_drop, ← lst_ext, h3, ht]
    have h6 : D.drop 1 = s.data.toList.drop (a + 1) := by rw [hD, List.drop_drop]
    rw [← h6] at h5
    match D, e with
    | x :: y :: D, e =>
      simp only [List.take_succ_cons, List.take_zero, List.cons.injEq, and_true] at e
      rw [List.drop_succ_cons, List.drop_zero] at h5
      obtain ⟨k, hk⟩ : ∃ k, t.size = k + 1 := ⟨t.size - 1, by omega⟩
      rw [hk, List.take_succ_cons] at h5
      injection h5 with h5 _
      rw [e.2] at h5; cases h5
  | i + 2, h3, h4 =>
    match D, hD, e with
    | x :: y :: D, hD, e =>
      simp only [List.take_succ_cons, List.take_zero, List.cons.injEq, and_true] at e
      obtain ⟨rfl, rfl⟩ := e
      rw [List.take_succ_cons, List.take_succ_cons]
      have hp : Lib.hasPrefix (13 :: 10 :: D.take i) [13, 10] = true := by unfold Lib.hasPrefix; simp
      unfold Lib.trimPrefix
      rw [if_pos hp, Nat.max_eq_left (by omega)]
      show D.take i = _
      have h7 : s.data.toList.drop (a + 2) = D := by rw [← List.drop_drop, ← hD]; rfl
      rw [show a + (i + 2) = (a + 2) + i by omega, ← List.take_drop, h7]
theorem name_empty {f : ByteArray} (h : f.size = 0) : nameB f = false := by
  unfold nameB frontB
  rw [decide_eq_false (by rw [h]; decide)]; rfl
/-- the look at a first line, by places -/
theorem name_cases (f : ByteArray) : (f.size ≤ 38 ∧ nameB f = false) ∨ (38 < f.size ∧ ((((f.data.toList.take 38).map lowB == begB.data.toList) = false ∧ nameB f = false) ∨
    (((f.data.toList.take 38).map lowB == begB.data.toList) = true ∧ ∃ h : f.size - 1 < f.size, (¬ f[f.size - 1]'h = 34 ∧ nameB f = false) ∨ (f[f.size - 1]'h = 34 ∧ nameB f = (!hasQ (f.extract 38 (f.size - 1))) ∧ nameS f = f.extract 38 (f.size - 1))))) := by
  have hbs : begB.size = 38 := rfl
  by_cases h0 : f.size < 38
  · exact .inl ⟨by omega, by unfold nameB frontB; rw [decide_eq_false (by rw [hbs]; omega)]; rfl⟩
  · have hfb : frontB f begB = ((f.data.toList.take 38).map lowB == begB.data.toList) := by unfold frontB; rw [decide_eq_true (by rw [hbs]; omega), Bool.true_and]; rfl
    cases hq : ((f.data.toList.take 38).map lowB == begB.data.toList) with
    | false =>
      have hn : nameB f = false := by unfold nameB; rw [hfb, hq]; rfl
      by_cases h1 : f.size ≤ 38
      · exact .inl ⟨h1, hn⟩
      · exact .inr ⟨by omega, .inl ⟨rfl, hn⟩⟩
    | true =>
      have hfs : frontS f begB = tl f 38 := by rw [frontS_yes (hfb.trans hq)]; rfl
      by_cases h1 : f.size ≤ 38
      · refine .inl ⟨h1, ?_⟩
        unfold nameB
        rw [hfs]
        have : sufB (tl f 38) quoQ = false := by unfold sufB; rw [tl_size, decide_eq_false (by show ¬ 1 ≤ _; omega)]; rfl
        rw [this, Bool.and_false]; rfl
      · refine .inr ⟨by omega, .inr ⟨rfl, by omega, ?_⟩⟩
        have hlast : sufB (tl f 38) quoQ = (f[f.size - 1]'(by omega) == 34) := by
          unfold sufB
          have e1 : (tl f 38).extract ((tl f 38).size - quoQ.size) (tl f 38).size = f.extract (f.size - 1) (f.size - 1 + 1) := by
            rw [tl_ext, tl_size]
            rw [show quoQ.size = 1 from rfl, show 38 + (f.size - 38 - 1) = f.size - 1 by omega, show 38 + (f.size - 38) = f.size by omega, show f.size - 1 + 1 = f.size by omega]
          rw [tl_size, decide_eq_true (by show 1 ≤ _; omega), Bool.true_and, Lib.toList_data, Lib.toList_data]
          rw [tl_size] at e1
          rw [e1, ext_one f _ (by omega)]
          show ([f[f.size - 1]'(by omega)] == [34]) = _
          by_cases h : f[f.size - 1]'(by omega) = 34
          · rw [h]; rfl
          · rw [beq_eq_false_iff_ne.2 h, beq_eq_false_iff_ne]; simpa using h
        by_cases hl : f[f.size - 1]'(by omega) = 34
        · right
          have hsb : sufB (tl f 38) quoQ = true := by rw [hlast, hl]; rfl
          have hns : nameS f = f.extract 38 (f.size - 1) := by
            unfold nameS sufS
            rw [hfs, if_pos hsb, tl_ext, tl_size, show quoQ.size = 1 from rfl, Nat.add_zero, show 38 + (f.size - 38 - 1) = f.size - 1 by omega]
          refine ⟨hl, ?_, hns⟩
          unfold nameB
          rw [hns, hfs, hsb, hfb, hq, Bool.true_and, Bool.true_and]
        · left
          refine ⟨hl, ?_⟩
          have hsb : sufB (tl f 38) quoQ = false := by rw [hlast, beq_eq_false_iff_ne.2 hl]
          unfold nameB
          rw [hfs, hsb, Bool.and_false]; rfl
end Go.Proofs.YtaepbpdcfmklpaaDoor
