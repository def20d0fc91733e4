/- Walk: multi.Parts. -/
import Derived.Test.YtaepbpdcfmklpaaDoorMrdB
namespace Go.Proofs.YtaepbpdcfmklpaaDoor
open Go.RowKit
set_option linter.unusedVariables false
set_option linter.unusedSimpArgs false

def PsRes (b s : ByteArray) (most : Int) (w : World) (e : Ending) (w' : World) : Prop :=
  ∃ v, e = .returned (.tuple #[v, .int .i64 (readR b s most).2]) ∧ OP 35 w' w.heap.size v (readR b s most).1 ∧ Below w.heap.size w w'
/-- strings.CutPrefix, in two words -/
def preS (s p : ByteArray) : ByteArray := ⟨(Lib.trimPrefix s.data.toList p.data.toList).toArray⟩
theorem cutPre_any (s p : ByteArray) (w : World) : Calls Tryd.prog 80 #[.string s, .string p] w fun e w' => e = .returned (.tuple #[.string (preS s p), .bool (preB s p)]) ∧ w = w' :=
  (Tryd.strings_CutPrefix s p w).mono fun _ _ h => ⟨h.1, h.2.symm⟩
theorem preS_yes {s p : ByteArray} (h : preB s p = true) : preS s p = s.extract p.size s.size := by
  have h2 := h
  unfold preB at h2
  rw [← Lib.hasPrefix_raw, Bool.and_eq_true, decide_eq_true_eq] at h2
  exact Lib.trimPrefix_hit s p h2.1 h2.2
theorem ddB_size (b : ByteArray) : (ddB b).size = b.size + 2 := by
  unfold ddB; rw [← lst_len, lst_app, List.length_append, lst_len, lst_len]; show 2 + _ = _; omega
theorem partV_none (b s : ByteArray) (h : partF b s = none) : partV (partF b s) = .tuple #[.agg #[.string { data := #[] }, .string { data := #[] }], .string { data := #[] }, .bool false] := by rw [h]; rfl
theorem partV_some (b s : ByteArray) {x : Fd × ByteArray} (h : partF b s = some x) : partV (partF b s) = .tuple #[.agg #[.string x.1.n, .string x.1.v], .string x.2, .bool true] := by rw [h]; rfl
section
variable (b s : ByteArray) (most m : Int) (w : World)
theorem ps_arg (hb : b.size ≤ 1048576) (h : bndL b = false) : Calls Tryd.prog 53 #[.string s, .string b, .int .i64 most] w (PsRes b s most w) := by
  have C := Lib.hid (right_eq h w hb)
  have HF := Lib.hid (readR_arg (s := s) (most := most) h)
  clear h
  go_enter Tryd.func53, Tryd.ntmps53
  go_wp2_with fail
  refine C.out.mono ?_
  rintro e w' ⟨rfl, rfl⟩
  go_wp2_with fail
  go_ret2
  refine ⟨.slice none 0 0, by rw [HF.out]; rfl, by rw [HF.out]; exact OP.nil _ _ _, Below.refl _ _⟩
theorem ps_large (hb : b.size ≤ 1048576) (h : bndL b = true) (h2 : 4096 < s.size) : Calls Tryd.prog 53 #[.string s, .string b, .int .i64 most] w (PsRes b s most w) := by
  have C := Lib.hid (right_eq h w hb)
  have HF := Lib.hid (readR_large (most := most) h h2)
  have d1 : (4096 : Int) < (s.size : Int) := by omega
  clear h
  go_enter Tryd.func53, Tryd.ntmps53
  go_wp2_with fail
  refine C.out.mono ?_
  rintro e w' ⟨rfl, rfl⟩
  go_wp2_with fail
  go_ret2
  refine ⟨.slice none 0 0, by rw [HF.out]; rfl, by rw [HF.out]; exact OP.nil _ _ _, Below.refl _ _⟩
theorem ps_form (hb : b.size ≤ 1048576) (h : bndL b = true) (h2 : ¬ 4096 < s.size) (h3 : preB s (ddB b) = false) : Calls Tryd.prog 53 #[.string s, .string b, .int .i64 most] w (PsRes b s most w) := by
  have C := Lib.hid (right_eq h w hb)
  have HF := Lib.hid (readR_form (most := most) h h2 h3)
  have d1 : ¬ (4096 : Int) < (s.size : Int) := by omega
  have C2 := cutPre_any s (ddB b) w
  rw [h3] at C2
  obtain ⟨D, hD⟩ : ∃ D, ({ data := #[45, 45] } ++ b : ByteArray) = D := ⟨_, rfl⟩
  rw [show ddB b = D from hD] at C2
  have C2 := Lib.hid C2
  clear h h3
  go_enter Tryd.func53, Tryd.ntmps53
  go_wp2_with fail
  refine C.out.mono ?_
  rintro e w' ⟨rfl, rfl⟩
  go_wp2_with fail
  refine C2.out.mono ?_
  rintro e w' ⟨rfl, rfl⟩
  go_wp2_with fail
  go_ret2
  refine ⟨.slice none 0 0, by rw [HF.out]; rfl, by rw [HF.out]; exact OP.nil _ _ _, Below.refl _ _⟩
set_option maxRecDepth 100000 in
set_option maxHeartbeats 8000000 in
theorem ps_rest (hb : b.size ≤ 1048576) (h : bndL b = true) (h2 : ¬ 4096 < s.size) (h3 : preB s (ddB b) = true) (hm : w.cell? ⟨0, 0, none⟩ = some (.int .i64 m)) : Calls Tryd.prog 53 #[.string s, .string b, .int .i64 most] w (PsRes b s most w) := by
  have hmb := World.block_lt_of_cell? _ _ hm
  have HM := Lib.hid fun w' (hb : Below w.heap.size w w') => (hb.cell (p := ⟨0, 0, none⟩) hmb).trans hm
  have C := Lib.hid (right_eq h w hb)
  have hbz := (bnd_size h).2
  have d1 : ¬ (4096 : Int) < (s.size : Int) := by omega
  have C2 := cutPre_any s (ddB b) w
  rw [h3, preS_yes h3] at C2
  obtain ⟨D, hD⟩ : ∃ D, ({ data := #[45, 45] } ++ b : ByteArray) = D := ⟨_, rfl⟩
  obtain ⟨S0, hS0⟩ : ∃ S0, S0 = s.extract (ddB b).size s.size := ⟨_, rfl⟩
  have hS0z : S0.size < s.size + 1 ∧ S0.size ≤ 4096 := by rw [hS0, ByteArray.size_extract]; omega
  rw [← hS0, show ddB b = D from hD] at C2
  have C2 := Lib.hid C2
  have hF := readR_rest (most := most) h h2 h3
  obtain ⟨T, hT⟩ : ∃ T, T = readR b s most := ⟨_, rfl⟩
  rw [← hS0, ← hT] at hF
  have HF := Lib.hid hF
  have HT := Lib.hid hT
  clear h h3 hF hT hm hmb hS0
  unfold PsRes
  rw [← HT.out]
  go_enter Tryd.func53, Tryd.ntmps53
  go_wp2_with fail
  refine C.out.mono ?_
  rintro e w' ⟨rfl, rfl⟩
  go_wp2_with fail
  refine C2.out.mono ?_
  rintro e w' ⟨rfl, rfl⟩
  go_wp2_with fail
  clear hD
  go_loopw [0, 8, 9, 10] (fun sv _ ov _ wr => ∃ (S : ByteArray) (n : Nat) (out : List Fd), sv = .string S ∧ S.size < n ∧ out.length + S.size ≤ 4096 ∧ Hid (readN b most n S out = T) ∧ OP 35 wr w.heap.size ov out ∧ Hid (Below w.heap.size w wr)) (fun sv _ _ _ _ => vSize sv)
  case atStart => exact ⟨S0, s.size + 1, [], rfl, hS0z.1, by simpa using hS0z.2, Lib.hid HF.out.symm, OP.nil _ _ _, Lib.hid (Below.refl _ _)⟩
  case round =>
    obtain ⟨S, n, out, rfl, hn, hoz, HN, ho, HB⟩ := hrel
    obtain ⟨n, rfl⟩ : ∃ k, n = k + 1 := ⟨n - 1, by omega⟩
    obtain ⟨A, c, rfl⟩ := ho.form
    have HO := Lib.hid ho
    clear ho
    cases hl : (S.data.toList == lastB.data.toList) with
    | true =>
      have q1 : (S.toList == [45, 45, 13, 10]) = true := by rw [Lib.toList_data]; exact hl
      have HR : Hid (T = (out, 0)) := Lib.hid (by rw [← HN.out, read_end hl])
      clear hl
      go_wp2_with fail
      go_ret2
      exact ⟨.slice A out.length c, by rw [HR.out]; rfl, by rw [HR.out]; exact HO.out, HB.out⟩
    | false =>
      have q1 : (S.toList == [45, 45, 13, 10]) = false := by rw [Lib.toList_data]; exact hl
      cases hp : preB S crlfB with
      | false =>
        have HR : Hid (T = ([], 4)) := Lib.hid (by rw [← HN.out, read_pre hl hp])
        have C3 := fun w => cutPre_any S crlfB w
        rw [hp] at C3
        have C3 := Lib.hid C3
        clear hl hp
        go_wp2_with fail
        refine (C3.out _).mono ?_
        rintro e w1 ⟨rfl, rfl⟩
        go_wp2_with fail
        go_ret2
        exact ⟨.slice none 0 0, by rw [HR.out]; rfl, by rw [HR.out]; exact OP.nil _ _ _, HB.out⟩
      | true =>
        have C3 := fun w => cutPre_any S crlfB w
        rw [hp, preS_yes hp] at C3
        have hcz := preB_size hp
        have hc2 : crlfB.size = 2 := rfl
        rw [hc2] at hcz C3
        obtain ⟨R, hR⟩ : ∃ R, R = S.extract 2 S.size := ⟨_, rfl⟩
        have hRz : R.size + 2 = S.size := by rw [hR, ByteArray.size_extract]; omega
        rw [← hR] at C3
        have C3 := Lib.hid C3
        obtain ⟨V, hV⟩ : ∃ V, wr.alloc (.cells #[.string { data := #[] }, .string { data := #[] }] 35) = V := ⟨_, rfl⟩
        have hVb : Below wr.heap.size wr V := by rw [← hV]; exact (Below.refl _ _).alloc (Nat.le_refl _) _
        have hVk : Blk V wr.heap.size 35 #[.string { data := #[] }, .string { data := #[] }] := by rw [← hV]; exact Blk.new _ _ _
        have hVl := hVk.lt
        have HBV := Lib.hid (HB.out.trans (hVb.mono HB.out.size))
        have C4 := part_any b R m V (by omega) hbz (HM.out _ HBV.out)
        have HVB := Lib.hid hVb
        have HVK := Lib.hid hVk
        clear hVb hVk
        cases hpf : partF b R with
        | none =>
          have HR : Hid (T = ([], 4)) := Lib.hid (by rw [← HN.out, read_none hl (by rw [← hR]; exact hpf)])
          rw [partV_none b R hpf] at C4
          have C4 := Lib.hid C4
          clear hl hp hpf hR
          go_wp2_with fail
          refine (C3.out _).mono ?_
          rintro e w1 ⟨rfl, rfl⟩
          go_wp2_with fail
          refine C4.out.mono ?_
          rintro e w3 ⟨rfl, b3⟩
          have hk3 := HVK.out.below b3 hVl
          have x0 := hk3.cell 0
          have x1 := hk3.cell 1
          have f0 := hk3.frozen 0
          have f1 := hk3.frozen 1
          have HB3 := Lib.hid (HBV.out.trans (b3.mono HBV.out.size))
          have HW4 : Hid (Below w.heap.size w ((w3.setCell ⟨wr.heap.size, 0, none⟩ (.string { data := #[] })).setCell ⟨wr.heap.size, 1, none⟩ (.string { data := #[] }))) :=
            Lib.hid ((HB3.out.setCell (p := ⟨wr.heap.size, 0, none⟩) HB.out.size _).setCell (p := ⟨wr.heap.size, 1, none⟩) HB.out.size _)
          clear b3 hk3 hV
          go_wp2_with fail
          go_ret2
          exact ⟨.slice none 0 0, by rw [HR.out]; rfl, by rw [HR.out]; exact OP.nil _ _ _, HW4.out⟩
        | some x =>
          have hps := part_size hpf
          rw [partV_some b R hpf] at C4
          obtain ⟨⟨fn, fv⟩, left⟩ := x
          dsimp only at C4 hps
          have C4 := Lib.hid C4
          by_cases hmo : most ≤ (out.length : Int)
          · have HR : Hid (T = ([], 2)) := Lib.hid (by rw [← HN.out, read_many hl hp (by rw [← hR]; exact hpf) hmo])
            clear hl hp hpf hR
            go_wp2_with fail
            refine (C3.out _).mono ?_
            rintro e w1 ⟨rfl, rfl⟩
            go_wp2_with fail
            refine C4.out.mono ?_
            rintro e w3 ⟨rfl, b3⟩
            have hk3 := HVK.out.below b3 hVl
            have x0 := hk3.cell 0
            have x1 := hk3.cell 1
            have f0 := hk3.frozen 0
            have f1 := hk3.frozen 1
            have HB3 := Lib.hid (HBV.out.trans (b3.mono HBV.out.size))
            have HW4 : Hid (Below w.heap.size w ((w3.setCell ⟨wr.heap.size, 0, none⟩ (.string fn)).setCell ⟨wr.heap.size, 1, none⟩ (.string fv))) :=
              Lib.hid ((HB3.out.setCell (p := ⟨wr.heap.size, 0, none⟩) HB.out.size _).setCell (p := ⟨wr.heap.size, 1, none⟩) HB.out.size _)
            clear b3 hk3 hV
            go_wp2_with fail
            go_ret2
            exact ⟨.slice none 0 0, by rw [HR.out]; rfl, by rw [HR.out]; exact OP.nil _ _ _, HW4.out⟩
          · have HR : Hid (readN b most n left (out ++ [⟨fn, fv⟩]) = T) := Lib.hid (by rw [← HN.out, read_more hl hp (by rw [← hR]; exact hpf) hmo])
            clear hl hp hpf hR
            go_wp2_with fail
            refine (C3.out _).mono ?_
            rintro e w1 ⟨rfl, rfl⟩
            go_wp2_with fail
            refine C4.out.mono ?_
            rintro e w3 ⟨rfl, b3⟩
            have hk3 := HVK.out.below b3 hVl
            have x0 := hk3.cell 0
            have x1 := hk3.cell 1
            have f0 := hk3.frozen 0
            have f1 := hk3.frozen 1
            obtain ⟨W4, hW4⟩ : ∃ W4, (w3.setCell ⟨wr.heap.size, 0, none⟩ (.string fn)).setCell ⟨wr.heap.size, 1, none⟩ (.string fv) = W4 := ⟨_, rfl⟩
            have hk4 := (hk3.set_ 0 (.string fn)).set_ 1 (.string fv)
            rw [hW4] at hk4
            have y0 : W4.cell? ⟨wr.heap.size, 0, none⟩ = some (.string fn) := hk4.cell 0
            have y1 : W4.cell? ⟨wr.heap.size, 1, none⟩ = some (.string fv) := hk4.cell 1
            have hb4 : Below wr.heap.size wr W4 := by rw [← hW4]; exact ((HVB.out.trans (b3.mono HVB.out.size)).setCell (p := ⟨wr.heap.size, 0, none⟩) (Nat.le_refl _) _).setCell (p := ⟨wr.heap.size, 1, none⟩) (Nat.le_refl _) _
            have HO4 := Lib.hid (HO.out.kept hb4)
            have HB4 := Lib.hid (HB.out.trans (hb4.mono HB.out.size))
            clear b3 hk3 hk4 hb4 hV
            go_wp2_with (at_builtin; refine wpL_appP infoArg Tryd.underlying28 rfl (.tmp 48) (.tmp 50) rfl HO4.out rfl ⟨fn, fv⟩ rfl rfl (by omega) HB4.out.size ?_; intro v5 w5 ho5 _ hb5)
            obtain ⟨A5, c5, e5⟩ := ho5.form
            have HO5 := Lib.hid ho5
            have HB5 := Lib.hid (HB4.out.trans hb5)
            clear ho5 hb5 e5
            go_wp2_with fail
            go_roundw
            case rel => exact ⟨left, n, out ++ [⟨fn, fv⟩], rfl, by omega, by rw [List.length_append, List.length_singleton]; omega, HR, HO5.out, HB5⟩
            case measure => simp only [vSize]; omega
theorem parts_any (hb : b.size ≤ 1048576) (hm : w.cell? ⟨0, 0, none⟩ = some (.int .i64 m)) : Calls Tryd.prog 53 #[.string s, .string b, .int .i64 most] w (PsRes b s most w) := by
  cases h : bndL b with
  | false => exact ps_arg b s most w hb h
  | true =>
    by_cases h2 : 4096 < s.size
    · exact ps_large b s most w hb h h2
    · cases h3 : preB s (ddB b) with
      | false => exact ps_form b s most w hb h h2 h3
      | true => exact ps_rest b s most m w hb h h2 h3 hm
end
end Go.Proofs.YtaepbpdcfmklpaaDoor
