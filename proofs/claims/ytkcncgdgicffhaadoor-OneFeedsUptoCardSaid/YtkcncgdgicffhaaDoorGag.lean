/- Walk: the size of a chunk that frame's reader takes. (printed by gen_chkc.py) -/
import Derived.Test.YtkcncgdgicffhaaDoorGaf
import Derived.Test.YtkcncgdgicffhaaDoorGt
import Derived.Test.YtkcncgdgicffhaaDoorGd
import Derived.Deep.LoopGhost
namespace Go.Proofs.YtkcncgdgicffhaaDoor
open Go.RowKit
set_option linter.unusedVariables false
set_option linter.unusedSimpArgs false

theorem digitO_any (n : Int) (h0 : 0 ≤ n) (h1 : n ≤ 255) (w : World) :
    Calls Tryd.prog 109 #[.int .u8 n] w fun e w' => e = .returned (.int .i64 (hexv n)) ∧ w = w' := by
  go_enter Tryd.func109, Tryd.ntmps109
  go_wp2_with (go_at_call 108; refine (digit_any _ (by omega) (by omega) _).mono ?_; rintro e w' ⟨rfl, rfl⟩)
  go_ret
  exact ⟨rfl, rfl⟩
theorem hexO_any7 (s : ByteArray) (w : World) (hs : s.size ≤ maxLen) :
    Calls Tryd.prog 110 #[.string s] w fun e w' => e = .returned (.tuple #[.int .i64 (numN 16 7 s), .int .i64 (numE 16 7 s)]) ∧ w = w' := by
  go_enter Tryd.func110, Tryd.ntmps110
  go_wp2_with fail
  refine (number_any s 16 7 _ hs (by omega) (by omega) (by omega) (by omega)).mono ?_
  rintro e w' ⟨rfl, rfl⟩
  go_wp2_with fail
  go_ret2
  exact ⟨rfl, rfl⟩
/-- the number of digits that stand in a text -/
theorem num_ext {s : ByteArray} {a k : Nat} (hk : runN (s.data.toList.drop a) = k) (h0 : 0 < k) (ha : a + k ≤ s.size) : numN 16 7 (s.extract a (a + k)) = numv 16 ((s.data.toList.drop a).take k) ∧ numE 16 7 (s.extract a (a + k)) = 0 := by
  have hd := run_digs (s.data.toList.drop a)
  rw [hk] at hd
  have hr := runN_le (s.data.toList.drop a)
  have hl : (s.extract a (a + k)).data.toList = (s.data.toList.drop a).take k := by rw [lst_ext, List.drop_take]; congr 1; omega
  rw [← hl] at hd ⊢
  exact num_good hd (by rw [ByteArray.size_extract]; omega) (by rw [ByteArray.size_extract]; omega)
/-- what the size's reader answers -/
def SzP (s : ByteArray) (a : Nat) (N E : Int) : Prop :=
  (runN (s.data.toList.drop a) = 0 ∧ N = 0 ∧ E = if s.size ≤ a then 7 else 4) ∨
  (0 < runN (s.data.toList.drop a) ∧ a + runN (s.data.toList.drop a) ≤ s.size ∧ N = numv 16 ((s.data.toList.drop a).take (runN (s.data.toList.drop a))) ∧ E = nlE (s.data.toList.drop (a + runN (s.data.toList.drop a))))
section
variable (s : ByteArray) (a : Nat) (most : Int) (v : Value) (g : Nat) (w : World)
set_option maxHeartbeats 2000000 in
theorem size_rd (hk : Blk w g 92 (chV s a most v)) (ha : a ≤ s.size) (hs : s.size ≤ 1048576) :
    Calls Tryd.prog 90 #[.pointer (some ⟨g, 0, none⟩)] w fun x w' => ∃ N E, x = .returned (.tuple #[.int .i64 N, .int .i64 E]) ∧ SzP s a N E ∧ (∃ a' : Nat, a' ≤ s.size ∧ (E = 0 → a' = a + runN (s.data.toList.drop a) + 2) ∧ Blk w' g 92 (chV s a' most v)) ∧ KeptOff w w' g := by
  have HK := Lib.hid hk
  have k1 : w.cell? ⟨g, 1, none⟩ = some (.int .i64 a) := hk.cell 1
  have CL : Hid (∀ (b : Nat) w', Blk w' g 92 (chV s b most v) → b ≤ s.size → Calls Tryd.prog 91 #[.pointer (some ⟨g, 0, none⟩)] w' fun x w'' => x = .returned (.int .i64 (nlE (s.data.toList.drop b))) ∧ (∃ a' : Nat, a' ≤ s.size ∧ (nlE (s.data.toList.drop b) = 0 → a' = b + 2) ∧ Blk w'' g 92 (chV s a' most v)) ∧ KeptOff w' w'' g) := fun b w' h hb => line_any s b most v g w' h hb hs _ rfl
  clear hk
  go_enter Tryd.func90, Tryd.ntmps90
  go_wp2_with fail
  go_loopg [] 7 (fun gn wr => ∃ k b : Nat, b = a + k ∧ gn + k = 7 ∧ b ≤ s.size ∧ Hid (digs 16 ((s.data.toList.drop a).take k) = true) ∧ Blk wr g 92 (chV s b most v) ∧ KeptOff w wr g)
  case atStart => exact ⟨0, a, rfl, rfl, ha, rfl, HK.out, KeptOff.refl⟩
  case round =>
    obtain ⟨k, b, hbk, hg7, hbs, hd, hk, ho⟩ := hrel
    have HBK := Lib.hid hbk
    have HG := Lib.hid hg7
    have hb1 : b ≤ a + k := by omega
    have hb2 : a + k ≤ b := by omega
    have hk7 : k ≤ 7 := by omega
    clear hbk hg7
    have HK2 := Lib.hid hk
    have HO2 := Lib.hid ho
    have k0 : wr.cell? ⟨g, 0, none⟩ = some (.string s) := hk.cell 0
    have k1 : wr.cell? ⟨g, 1, none⟩ = some (.int .i64 b) := hk.cell 1
    have f1 : wr.frozen? ⟨g, 1, none⟩ = false := hk.frozen 1
    have jA : IntKind.i64.wrap ((a : Int) + 7) = (a : Int) + 7 := IntWalk.i64_in _ (by omega)
    have CLr := Lib.hid fun w' (h : Blk w' g 92 (chV s b most v)) => CL.out b w' h hbs
    clear hk ho HK CL
    by_cases hlt : b < s.size
    · have i1 : (b : Int) < (s.size : Int) := by omega
      by_cases h7 : k = 7
      · have i2 : decide ((b : Int) < (a : Int) + 7) = false := decide_eq_false (by omega)
        have i2' : decide (b < a + 7) = false := decide_eq_false (by omega)
        have HX : Hid (runN (s.data.toList.drop a) = k) := Lib.hid (run_eq (by omega) (by omega) hd.out (.inl h7))
        have h7' : 7 ≤ k := by omega
        clear h7
        clear hd
        go_wp2_with fail
        go_quiet (fail)
        by_cases hk0 : k = 0
        · omega
        · have eab : ((b : Int) == (a : Int)) = false := by rw [beq_eq_false_iff_ne]; omega
          have i3 : (0 : Int) ≤ (a : Int) := by omega
          have i4 : (a : Int) ≤ (b : Int) := by omega
          have i5 : (b : Int) ≤ (s.size : Int) := by omega
          have hxz : (s.extract a b).size ≤ 1048576 := by rw [ByteArray.size_extract]; omega
          have CH := Lib.hid fun w' => hexO_any7 (s.extract a b) w' (by unfold maxLen; omega)
          have HN := Lib.hid (num_ext HX.out (by omega) (by omega))
          have HN2 : Hid (numN 16 7 (s.extract a b) = numv 16 ((s.data.toList.drop a).take k)) := by have hbk := HBK.out; subst hbk; exact HN.out.1
          have hk1 : 0 < k := by omega
          clear HN hxz
          go_wp2_with fail
          go_quiet (first | (go_at_call 110; exact (CH.out _).mono fun _ _ h => ⟨h.1, _, h.2.symm⟩))
          go_wp2_with fail
          refine (CLr.out _ (HK2.out.drewN _)).mono ?_
          rintro e w1 ⟨rfl, ⟨a', h1, h2, h3⟩, h4⟩
          have HBL := Lib.hid h3
          have HO4 := Lib.hid h4
          have H2 := Lib.hid h2
          clear h2 h3 h4
          go_wp2_with fail
          go_ret2
          refine ⟨_, _, rfl, .inr ⟨by rw [HX.out]; exact hk1, by rw [HX.out, ← HBK.out]; exact hbs, by rw [HX.out]; exact HN2.out, by rw [HX.out, ← HBK.out]⟩, ⟨a', h1, fun h => ?_, HBL.out⟩, KeptOff.tr HO2.out (KeptOff.tr (KeptOff.drewN KeptOff.refl _) HO4.out)⟩
          rw [HX.out, ← HBK.out]; exact H2.out h
      · have i2 : (b : Int) < (a : Int) + 7 := by omega
        obtain ⟨c1, c2⟩ := byte_lt s[b]
        have CD := fun w' => digitO_any (s[b].toNat : Int) c1 c2 w'
        obtain ⟨X, hX⟩ : ∃ X, X = hexv (s[b].toNat : Int) := ⟨_, rfl⟩
        rw [← hX] at CD
        have CD := Lib.hid CD
        have HXX := Lib.hid hX
        clear hX
        by_cases hdig : 0 ≤ X
        · have hdd : Hid (digs 16 ((s.data.toList.drop a).take (k + 1)) = true) := by
            show _ = _
            have h1 := digs_all.1 hd.out
            rw [digs_all]
            intro x hx
            rw [List.take_succ_eq_append_getElem (by rw [List.length_drop, lst_len]; omega), List.mem_append, List.mem_singleton] at hx
            rcases hx with hx | rfl
            · exact h1 x hx
            · rw [List.getElem_drop]; have hbk := HBK.out; subst hbk; rw [lst_get s _ hlt]; unfold isHx; exact decide_eq_true (by rw [← HXX.out]; exact hdig)
          have dg : decide (0 ≤ X) = true := decide_eq_true hdig
          have jb : IntKind.i64.wrap ((b : Int) + 1) = (b : Int) + 1 := IntWalk.i64_in _ (by omega)
          go_wp2_with fail
          go_quiet (first | (go_at_call 109; exact quiet_left (CD.out _)))
          go_wp2_with fail
          go_roundg (6 - k)
          case measure => have := HG.out; omega
          case rel => exact ⟨k + 1, b + 1, by omega, by omega, by omega, hdd, blk_at (HK2.out.drewN _) (by omega), KeptOff.set_ (HO2.out.drewN _) _ _⟩
        · have HX : Hid (runN (s.data.toList.drop a) = k) := Lib.hid (run_eq (by omega) (by omega) hd.out (.inr (.inr (by have hbk := HBK.out; subst hbk; exact ⟨hlt, by rw [← HXX.out]; omega⟩))))
          have dg : decide (0 ≤ X) = false := decide_eq_false hdig
          clear hd
          go_wp2_with fail
          go_quiet (first | (go_at_call 109; exact quiet_left (CD.out _)))
          by_cases hk0 : k = 0
          · subst hk0
            obtain rfl : b = a := by omega
            have ee : ((b : Int) == (s.size : Int)) = false := by rw [beq_eq_false_iff_ne]; omega
            have HE : Hid ((4 : Int) = if s.size ≤ b then 7 else 4) := Lib.hid (by rw [if_neg (by omega)])
            go_wp2_with fail
            go_quiet (fail)
            go_wp2_with fail
            go_ret2
            exact ⟨0, 4, rfl, .inl ⟨HX.out, rfl, HE.out⟩, ⟨b, hbs, fun h => absurd h (by decide), (HK2.out.drewN _).drewN _⟩, KeptOff.drewN (KeptOff.drewN HO2.out _) _⟩
          · have eab : ((b : Int) == (a : Int)) = false := by rw [beq_eq_false_iff_ne]; omega
            have i3 : (0 : Int) ≤ (a : Int) := by omega
            have i4 : (a : Int) ≤ (b : Int) := by omega
            have i5 : (b : Int) ≤ (s.size : Int) := by omega
            have hxz : (s.extract a b).size ≤ 1048576 := by rw [ByteArray.size_extract]; omega
            have CH := Lib.hid fun w' => hexO_any7 (s.extract a b) w' (by unfold maxLen; omega)
            have HN := Lib.hid (num_ext HX.out (by omega) (by omega))
            have HN2 : Hid (numN 16 7 (s.extract a b) = numv 16 ((s.data.toList.drop a).take k)) := by have hbk := HBK.out; subst hbk; exact HN.out.1
            have hk1 : 0 < k := by omega
            clear HN hxz
            go_wp2_with fail
            go_quiet (first | (go_at_call 110; exact (CH.out _).mono fun _ _ h => ⟨h.1, _, h.2.symm⟩))
            go_wp2_with fail
            refine (CLr.out _ (HK2.out.drewN _)).mono ?_
            rintro e w1 ⟨rfl, ⟨a', h1, h2, h3⟩, h4⟩
            have HBL := Lib.hid h3
            have HO4 := Lib.hid h4
            have H2 := Lib.hid h2
            clear h2 h3 h4
            go_wp2_with fail
            go_ret2
            refine ⟨_, _, rfl, .inr ⟨by rw [HX.out]; exact hk1, by rw [HX.out, ← HBK.out]; exact hbs, by rw [HX.out]; exact HN2.out, by rw [HX.out, ← HBK.out]⟩, ⟨a', h1, fun h => ?_, HBL.out⟩, KeptOff.tr HO2.out (KeptOff.tr (KeptOff.drewN KeptOff.refl _) HO4.out)⟩
            rw [HX.out, ← HBK.out]; exact H2.out h
    · have i1 : decide ((b : Int) < (s.size : Int)) = false := decide_eq_false (by omega)
      have i1' : decide (b < s.size) = false := decide_eq_false (by omega)
      have HX : Hid (runN (s.data.toList.drop a) = k) := Lib.hid (run_eq (by omega) (by omega) hd.out (.inr (.inl (by omega))))
      clear hd
      go_wp2_with fail
      go_quiet (fail)
      by_cases hk0 : k = 0
      · subst hk0
        obtain rfl : b = a := by omega
        have he : b = s.size := by omega
        have ee : ((b : Int) == (s.size : Int)) = true := by rw [he]; simp
        have HE : Hid ((7 : Int) = if s.size ≤ b then 7 else 4) := Lib.hid (by rw [if_pos (by omega)])
        clear he
        go_wp2_with fail
        go_quiet (fail)
        go_wp2_with fail
        go_ret2
        exact ⟨0, 7, rfl, .inl ⟨HX.out, rfl, HE.out⟩, ⟨b, hbs, fun h => absurd h (by decide), (HK2.out.drewN _).drewN _⟩, KeptOff.drewN (KeptOff.drewN HO2.out _) _⟩
      · have eab : ((b : Int) == (a : Int)) = false := by rw [beq_eq_false_iff_ne]; omega
        have i3 : (0 : Int) ≤ (a : Int) := by omega
        have i4 : (a : Int) ≤ (b : Int) := by omega
        have i5 : (b : Int) ≤ (s.size : Int) := by omega
        have hxz : (s.extract a b).size ≤ 1048576 := by rw [ByteArray.size_extract]; omega
        have CH := Lib.hid fun w' => hexO_any7 (s.extract a b) w' (by unfold maxLen; omega)
        have HN := Lib.hid (num_ext HX.out (by omega) (by omega))
        have HN2 : Hid (numN 16 7 (s.extract a b) = numv 16 ((s.data.toList.drop a).take k)) := by have hbk := HBK.out; subst hbk; exact HN.out.1
        have hk1 : 0 < k := by omega
        clear HN hxz
        go_wp2_with fail
        go_quiet (first | (go_at_call 110; exact (CH.out _).mono fun _ _ h => ⟨h.1, _, h.2.symm⟩))
        go_wp2_with fail
        refine (CLr.out _ (HK2.out.drewN _)).mono ?_
        rintro e w1 ⟨rfl, ⟨a', h1, h2, h3⟩, h4⟩
        have HBL := Lib.hid h3
        have HO4 := Lib.hid h4
        have H2 := Lib.hid h2
        clear h2 h3 h4
        go_wp2_with fail
        go_ret2
        refine ⟨_, _, rfl, .inr ⟨by rw [HX.out]; exact hk1, by rw [HX.out, ← HBK.out]; exact hbs, by rw [HX.out]; exact HN2.out, by rw [HX.out, ← HBK.out]⟩, ⟨a', h1, fun h => ?_, HBL.out⟩, KeptOff.tr HO2.out (KeptOff.tr (KeptOff.drewN KeptOff.refl _) HO4.out)⟩
        rw [HX.out, ← HBK.out]; exact H2.out h
end
end Go.Proofs.YtkcncgdgicffhaaDoor
