/- Walks: phrase.ready, phrase.Hits, phrase.Some. -/
import Derived.Test.YtckinkapbfaceaaPhrE
namespace Go.Proofs.Ytckinkapbfaceaa
open Go.RowKit
set_option linter.unusedVariables false
set_option linter.unusedSimpArgs false

/-- what is wrong with a tree and a text of n bytes -/
noncomputable def errTS (l : List Nd) (words : Int) (n : Nat) : Int := if errT l words = 0 then (if 8192 < n then 2 else 0) else errT l words
section
variable (l : List Nd) (A : Option Addr) (cap B : Nat) (words : Int) (s : ByteArray) (w : World)
set_option maxHeartbeats 1000000 in
theorem tready_any (h : NdR w B A cap l) (hs : s.size ≤ 9223372036854775807) :
    Calls Try.prog 44 #[.slice A l.length cap, .int .i64 words, .string s] w fun e w' => e = .returned (.int .i64 (errTS l words s.size)) ∧ Below w.heap.size w w' := by
  have C := Lib.hid (pcheck_any l A cap B words w h)
  have HE : Hid (errTS l words s.size = if errT l words = 0 then (if 8192 < s.size then 2 else 0) else errT l words) := rfl
  obtain ⟨E, hE⟩ : ∃ E, E = errT l words := ⟨_, rfl⟩
  rw [← hE] at C HE
  rw [HE.out]
  clear hE h HE
  by_cases h0 : E = 0
  · subst h0
    rw [if_pos rfl]
    by_cases h1 : 8192 < s.size
    · rw [if_pos h1]
      have d1 : (8192 : Int) < (s.size : Int) := by omega
      go_enter Try.func44, Try.ntmps44
      go_wp2_with fail
      refine C.out.mono ?_
      rintro e w1 ⟨rfl, b1⟩
      have HB := Lib.hid b1
      clear b1
      go_wp2_with fail
      go_ret
      exact ⟨rfl, HB.out⟩
    · rw [if_neg h1]
      have d1 : ¬ (8192 : Int) < (s.size : Int) := by omega
      go_enter Try.func44, Try.ntmps44
      go_wp2_with fail
      refine C.out.mono ?_
      rintro e w1 ⟨rfl, b1⟩
      have HB := Lib.hid b1
      clear b1
      go_wp2_with fail
      go_ret
      exact ⟨rfl, HB.out⟩
  · rw [if_neg h0]
    have e0 : (E != 0) = true := bne_iff_ne.2 h0
    clear h0
    go_enter Try.func44, Try.ntmps44
    go_wp2_with fail
    refine C.out.mono ?_
    rintro e w1 ⟨rfl, b1⟩
    have HB := Lib.hid b1
    clear b1
    go_wp2_with fail
    go_ret
    exact ⟨rfl, HB.out⟩
theorem errTS_ok {l : List Nd} {words : Int} {n : Nat} (h : errTS l words n = 0) : TreeR l ∧ n ≤ 8192 := by
  unfold errTS at h
  split at h
  · rename_i h0
    refine ⟨tree_of h0, ?_⟩
    split at h
    · cases h
    · omega
  · rename_i h0; exact absurd h h0
set_option maxHeartbeats 1000000 in
theorem thits_bad (h : NdR w B A cap l) (hs : s.size ≤ 9223372036854775807) (h0 : ¬ errTS l words s.size = 0) :
    Calls Try.prog 15 #[.slice A l.length cap, .int .i64 words, .string s] w fun e w' => e = .returned (.tuple #[.slice none 0 0, .int .i64 (errTS l words s.size)]) ∧ Below w.heap.size w w' := by
  have C := Lib.hid (tready_any l A cap B words s w h hs)
  obtain ⟨E, hE⟩ : ∃ E, E = errTS l words s.size := ⟨_, rfl⟩
  rw [← hE] at h0 C ⊢
  have e0 : (E != 0) = true := bne_iff_ne.2 h0
  clear h h0 hE
  go_enter Try.func15, Try.ntmps15
  go_wp2_with fail
  refine C.out.mono ?_
  rintro e w1 ⟨rfl, b1⟩
  have HB := Lib.hid b1
  clear b1
  go_wp2_with fail
  refine bodyPost_ret (v := .tuple #[.slice none 0 0, .int .i64 E]) (by simp [results, Try.results15, go_sem]) rfl ⟨rfl, HB.out⟩
set_option maxHeartbeats 1000000 in
theorem thits_ok (h : NdR w B A cap l) (hl : ∀ x ∈ l, x.ends.length ≤ 1048576) (hs : s.size ≤ 9223372036854775807) (h0 : errTS l words s.size = 0) :
    Calls Try.prog 15 #[.slice A l.length cap, .int .i64 words, .string s] w fun e w' => ∃ A1 c1, e = .returned (.tuple #[.slice A1 (hitsT l s.data.toList).length c1, .int .i64 0]) ∧ OH w' (w.heap.size + 1) (.slice A1 (hitsT l s.data.toList).length c1) (hitsT l s.data.toList) ∧ Below w.heap.size w w' := by
  have C := tready_any l A cap B words s w h hs
  obtain ⟨ht, hs2⟩ := errTS_ok h0
  rw [h0] at C
  have C := Lib.hid C
  have CH := Lib.hid fun w1 (hb : Below w.heap.size w w1) => hits_all l A cap B s w1 (h.kept hb) ht hs2 hl
  clear h h0 ht hl
  go_enter Try.func15, Try.ntmps15
  go_wp2_with fail
  refine C.out.mono ?_
  rintro e w1 ⟨rfl, b1⟩
  have HB := Lib.hid b1
  have C2 := Lib.hid (CH.out w1 b1)
  clear b1
  go_wp2_with fail
  refine C2.out.mono ?_
  rintro e w2 ⟨v, rfl, ho, b2⟩
  obtain ⟨A1, c1, rfl⟩ := ho.form
  have HO := Lib.hid (ho.mono (Nat.succ_le_succ HB.out.size))
  have HB2 := Lib.hid (HB.out.trans (b2.mono HB.out.size))
  clear ho b2
  go_wp2_with fail
  refine bodyPost_ret (v := .tuple #[.slice A1 (hitsT l s.data.toList).length c1, .int .i64 0]) (by simp [results, Try.results15, go_sem]) rfl ⟨A1, c1, rfl, HO.out, HB2.out⟩
set_option maxHeartbeats 1000000 in
theorem tsome_bad (h : NdR w B A cap l) (hs : s.size ≤ 9223372036854775807) (h0 : ¬ errTS l words s.size = 0) :
    Calls Try.prog 16 #[.slice A l.length cap, .int .i64 words, .string s] w fun e w' => e = .returned (.tuple #[.bool false, .int .i64 (errTS l words s.size)]) ∧ Below w.heap.size w w' := by
  have C := Lib.hid (tready_any l A cap B words s w h hs)
  obtain ⟨E, hE⟩ : ∃ E, E = errTS l words s.size := ⟨_, rfl⟩
  rw [← hE] at h0 C ⊢
  have e0 : (E != 0) = true := bne_iff_ne.2 h0
  clear h h0 hE
  go_enter Try.func16, Try.ntmps16
  go_wp2_with fail
  refine C.out.mono ?_
  rintro e w1 ⟨rfl, b1⟩
  have HB := Lib.hid b1
  clear b1
  go_wp2_with fail
  refine bodyPost_ret (v := .tuple #[.bool false, .int .i64 E]) (by simp [results, Try.results16, go_sem]) rfl ⟨rfl, HB.out⟩
set_option maxHeartbeats 1000000 in
theorem tsome_ok (h : NdR w B A cap l) (hl : ∀ x ∈ l, x.ends.length ≤ 1048576) (hs : s.size ≤ 9223372036854775807) (h0 : errTS l words s.size = 0) :
    Calls Try.prog 16 #[.slice A l.length cap, .int .i64 words, .string s] w fun e w' => e = .returned (.tuple #[.bool (decide (0 < ((hitsT l s.data.toList).length : Int))), .int .i64 0]) ∧ Below w.heap.size w w' := by
  have C := tready_any l A cap B words s w h hs
  obtain ⟨ht, hs2⟩ := errTS_ok h0
  rw [h0] at C
  have C := Lib.hid C
  have CH := Lib.hid fun w1 (hb : Below w.heap.size w w1) => hits_one l A cap B s w1 (h.kept hb) ht hs2 hl
  obtain ⟨T, hT⟩ : ∃ T, T = hitsT l s.data.toList := ⟨_, rfl⟩
  unfold hits_oneRes at CH
  rw [← hT] at CH ⊢
  clear h h0 ht hl hT
  go_enter Try.func16, Try.ntmps16
  go_wp2_with fail
  refine C.out.mono ?_
  rintro e w1 ⟨rfl, b1⟩
  have HB := Lib.hid b1
  have C2 := Lib.hid (CH.out w1 b1)
  clear b1
  go_wp2_with fail
  refine C2.out.mono ?_
  rintro e w2 ⟨A1, n, c1, rfl, hn, hn1, b2⟩
  have HB2 := Lib.hid (HB.out.trans (b2.mono HB.out.size))
  have HV : Hid (decide ((0 : Int) < (T.length : Int)) = decide ((0 : Int) < (n : Int))) := by
    show _ = _
    rw [Bool.eq_iff_iff, decide_eq_true_eq, decide_eq_true_eq]
    constructor
    · intro h; have := hn.2 (List.length_pos_iff.1 (by omega)); omega
    · intro h; have := List.length_pos_iff.2 (hn.1 (by omega)); omega
  clear hn b2
  go_wp2_with fail
  refine bodyPost_ret (v := .tuple #[.bool (decide ((0 : Int) < (n : Int))), .int .i64 0]) (by simp [results, Try.results16, go_sem]) rfl ⟨by rw [HV.out], HB2.out⟩
end
end Go.Proofs.Ytckinkapbfaceaa
