/- Walk: rex.bytes; sizes. (Printed by gen_rsyf.py.) -/
import Derived.Test.YtckinkapbfaceaaRsyE
namespace Go.Proofs.Ytckinkapbfaceaa
open Go.RowKit
set_option linter.unusedVariables false
set_option linter.unusedSimpArgs false

theorem itemsF_le (f : Nat → Bool) : (itemsF f).length ≤ 2304 := itemsK_le f 256
/-- the ways of bytes: N how many, z is 10 among them? -/
theorem bytes_cases (f : Nat → Bool) : ∃ N : Nat, N = cntT f 256 ∧ N ≤ 256 ∧
    ((N = 1 ∧ bytesF f = itemsF f) ∨ (N = 255 ∧ f 10 = false ∧ bytesF f = [46]) ∨ (N = 255 ∧ f 10 = true ∧ bytesF f = 91 :: 94 :: itemsF (notF f) ++ [93]) ∨
     (N ≠ 1 ∧ N ≠ 255 ∧ 128 < N ∧ N < 256 ∧ bytesF f = 91 :: 94 :: itemsF (notF f) ++ [93]) ∨ (N ≠ 1 ∧ N ≠ 255 ∧ ¬ 128 < N ∧ bytesF f = 91 :: itemsF f ++ [93]) ∨ (N = 256 ∧ bytesF f = 91 :: itemsF f ++ [93])) := by
  have hN := cntT_le f 256
  refine ⟨_, rfl, hN, ?_⟩
  unfold bytesF
  generalize cntT f 256 = N at hN ⊢
  by_cases h1 : N = 1
  · exact .inl ⟨h1, by rw [if_pos h1]⟩
  · by_cases h2 : N = 255
    · cases h3 : f 10 with
      | false => exact .inr (.inl ⟨h2, rfl, by rw [if_neg h1, if_pos ⟨h2, rfl⟩]⟩)
      | true => exact .inr (.inr (.inl ⟨h2, rfl, by rw [if_neg h1, if_neg (fun h => by cases h.2), if_pos (by omega)]⟩))
    · by_cases h4 : 128 < N
      · by_cases h5 : N < 256
        · exact .inr (.inr (.inr (.inl ⟨h1, h2, h4, h5, by rw [if_neg h1, if_neg (fun h => h2 h.1), if_pos ⟨h4, h5⟩]⟩)))
        · exact .inr (.inr (.inr (.inr (.inr ⟨by omega, by rw [if_neg h1, if_neg (fun h => h2 h.1), if_neg (by omega)]⟩))))
      · exact .inr (.inr (.inr (.inr (.inl ⟨h1, h2, h4, by rw [if_neg h1, if_neg (fun h => h2 h.1), if_neg (by omega)]⟩))))
theorem bytesF_le (f : Nat → Bool) : (bytesF f).length ≤ 2307 := by
  have h1 := itemsF_le f
  have h2 := itemsF_le (notF f)
  unfold bytesF
  split
  · omega
  · split
    · simp
    · split <;> simp <;> omega
theorem cat_br {A : List UInt8} : (⟨#[91]⟩ : ByteArray) ++ str A ++ ⟨#[93]⟩ = str (91 :: A ++ [93]) := by
  have e1 : (⟨#[91]⟩ : ByteArray) = str [91] := rfl
  have e2 : (⟨#[93]⟩ : ByteArray) = str [93] := rfl
  rw [e1, e2, cat_str, cat_str]; rfl
theorem cat_nbr {A : List UInt8} : (⟨#[91, 94]⟩ : ByteArray) ++ str A ++ ⟨#[93]⟩ = str (91 :: 94 :: A ++ [93]) := by
  have e1 : (⟨#[91, 94]⟩ : ByteArray) = str [91, 94] := rfl
  have e2 : (⟨#[93]⟩ : ByteArray) = str [93] := rfl
  rw [e1, e2, cat_str, cat_str]; rfl
theorem items_not {q : Q4} (hq : q.ok) : itemsF (setB q.not) = itemsF (notF (setB q)) := itemsK_congr (fun j hj => setB_not hq hj) 256 (Nat.le_refl _)
set_option maxRecDepth 100000 in
set_option maxHeartbeats 4000000 in
theorem bytes_any (q : Q4) (hq : q.ok) (w : World) :
    Calls Try.prog 86 #[setV q] w fun e w' => e = .returned (.string (str (bytesF (setB q)))) ∧ Below w.heap.size w w' := by
  obtain ⟨W, hW⟩ : ∃ W, w.alloc (.cells #[.int .u64 (q.a : Int), .int .u64 (q.b : Int), .int .u64 (q.c : Int), .int .u64 (q.d : Int)] 24) = W := ⟨_, rfl⟩
  have hSW : SBlk W w.heap.size q := by rw [← hW]; exact Blk.new _ _ _
  have HSW := Lib.hid hSW
  have HBW : Hid (Below w.heap.size w W) := by show Below _ _ _; rw [← hW]; exact (Below.refl _ _).alloc (Nat.le_refl _) _
  have CI := items_any q hq W
  have CN := Lib.hid fun w' => not_any q hq w'
  have CM := fun w' => items_any q.not (Q4.not_ok q) w'
  rw [items_not hq] at CM
  have CH := fun w' => has_any q 10 hq (by decide) w'
  obtain ⟨f, hf⟩ : ∃ f, f = setB q := ⟨_, rfl⟩
  rw [← hf] at CI CM CH ⊢
  have hm1 : (str (itemsF (notF f))).size ≤ 2304 := by rw [size_str]; exact itemsF_le _
  have hm2 := itemsF_le (notF f)
  have hi1 : (str (itemsF f)).size ≤ 2304 := by rw [size_str]; exact itemsF_le _
  have hi2 := itemsF_le f
  obtain ⟨N, hN, hN2, hcs⟩ := bytes_cases f
  rw [← hN] at CI
  obtain ⟨M, hM⟩ : ∃ M, M = itemsF (notF f) := ⟨_, rfl⟩
  obtain ⟨I, hI⟩ : ∃ I, I = itemsF f := ⟨_, rfl⟩
  obtain ⟨z, hz⟩ : ∃ z, z = f 10 := ⟨_, rfl⟩
  obtain ⟨T, hT⟩ : ∃ T, T = bytesF f := ⟨_, rfl⟩
  rw [← hM] at CM hm1 hm2 hcs
  rw [← hI] at CI hi1 hi2 hcs
  rw [← hz] at CH hcs
  rw [← hT] at hcs ⊢
  obtain ⟨A, hA⟩ : ∃ A, A = q.not := ⟨_, rfl⟩
  rw [← hA] at CN CM
  unfold setV at CI
  have CI := Lib.hid CI
  have CM := Lib.hid CM
  obtain ⟨u0, u1, u2, u3⟩ := hSW.y4
  have CH := Lib.hid CH
  clear hf hN hM hI hz hT hSW hA
  unfold setV at CM CN
  unfold setV
  rcases hcs with ⟨hn, rfl⟩ | ⟨hn, rfl, rfl⟩ | ⟨hn, rfl, rfl⟩ | ⟨hn, hn2, h3, h4, rfl⟩ | ⟨hn, hn2, h3, rfl⟩ | ⟨hn, rfl⟩
  · have e1 : ((N : Int) == 1) = true := by rw [beq_iff_eq]; omega
    clear hn
    go_enter Try.func86, Try.ntmps86
    go_wp2_with fail
    clear u0 u1 u2 u3
    refine CI.out.mono ?_
    rintro e w1 ⟨rfl, b1⟩
    have hS1 := HSW.out.kept b1
    have HB1 := Lib.hid (HBW.out.trans (b1.mono HBW.out.size))
    obtain ⟨y0, y1, y2, y3⟩ := hS1.y4
    have hwl : w.heap.size < w1.heap.size := Blk.lt hS1
    clear b1 hS1
    go_wp2_with fail
    go_ret
    exact ⟨rfl, HB1.out⟩
  · have e1 : ((N : Int) == 1) = false := by rw [beq_eq_false_iff_ne]; omega
    have e2 : ((N : Int) == 255) = true := by rw [beq_iff_eq]; omega
    clear hn
    go_enter Try.func86, Try.ntmps86
    go_wp2_with fail
    clear u0 u1 u2 u3
    refine CI.out.mono ?_
    rintro e w1 ⟨rfl, b1⟩
    have hS1 := HSW.out.kept b1
    have HB1 := Lib.hid (HBW.out.trans (b1.mono HBW.out.size))
    obtain ⟨y0, y1, y2, y3⟩ := hS1.y4
    have hwl : w.heap.size < w1.heap.size := Blk.lt hS1
    have HS1 := Lib.hid hS1
    clear b1 hS1
    go_wp2_with fail
    refine (CH.out _).mono ?_
    rintro e w2 ⟨rfl, b2⟩
    have HB2 := Lib.hid (HB1.out.trans (b2.mono HB1.out.size))
    have hS2 := HS1.out.kept b2
    obtain ⟨y0, y1, y2, y3⟩ := hS2.y4
    have hwl : w.heap.size < w2.heap.size := Blk.lt hS2
    clear b2 hS2
    go_wp2_with fail
    go_ret
    exact ⟨rfl, HB2.out⟩
  · have e1 : ((N : Int) == 1) = false := by rw [beq_eq_false_iff_ne]; omega
    have e2 : ((N : Int) == 255) = true := by rw [beq_iff_eq]; omega
    have a1 : (128 : Int) < (N : Int) := by omega
    have a2 : (N : Int) < 256 := by omega
    clear hn
    go_enter Try.func86, Try.ntmps86
    go_wp2_with fail
    clear u0 u1 u2 u3
    refine CI.out.mono ?_
    rintro e w1 ⟨rfl, b1⟩
    have hS1 := HSW.out.kept b1
    have HB1 := Lib.hid (HBW.out.trans (b1.mono HBW.out.size))
    obtain ⟨y0, y1, y2, y3⟩ := hS1.y4
    have hwl : w.heap.size < w1.heap.size := Blk.lt hS1
    have HS1 := Lib.hid hS1
    clear b1 hS1
    go_wp2_with fail
    refine (CH.out _).mono ?_
    rintro e w2 ⟨rfl, b2⟩
    have HB2 := Lib.hid (HB1.out.trans (b2.mono HB1.out.size))
    have hS2 := HS1.out.kept b2
    obtain ⟨y0, y1, y2, y3⟩ := hS2.y4
    have hwl : w.heap.size < w2.heap.size := Blk.lt hS2
    clear b2 hS2
    go_wp2_with fail
    refine (CN.out _).mono ?_
    rintro e w3 ⟨rfl, b3⟩
    have HB3 := Lib.hid (HB2.out.trans (b3.mono HB2.out.size))
    clear b3
    go_wp2_with fail
    refine (CM.out _).mono ?_
    rintro e w4 ⟨rfl, b4⟩
    have HB4 := Lib.hid (HB3.out.trans (b4.mono HB3.out.size))
    clear b4
    go_wp2_with fail
    go_ret
    exact ⟨ret_str cat_nbr, HB4.out⟩
  · have e1 : ((N : Int) == 1) = false := by rw [beq_eq_false_iff_ne]; omega
    have e2 : ((N : Int) == 255) = false := by rw [beq_eq_false_iff_ne]; omega
    have a1 : (128 : Int) < (N : Int) := by omega
    have a2 : (N : Int) < 256 := by omega
    clear hn hn2 h3 h4
    go_enter Try.func86, Try.ntmps86
    go_wp2_with fail
    clear u0 u1 u2 u3
    refine CI.out.mono ?_
    rintro e w1 ⟨rfl, b1⟩
    have hS1 := HSW.out.kept b1
    have HB1 := Lib.hid (HBW.out.trans (b1.mono HBW.out.size))
    obtain ⟨y0, y1, y2, y3⟩ := hS1.y4
    have hwl : w.heap.size < w1.heap.size := Blk.lt hS1
    clear b1 hS1
    go_wp2_with fail
    refine (CN.out _).mono ?_
    rintro e w3 ⟨rfl, b3⟩
    have HB3 := Lib.hid (HB1.out.trans (b3.mono HB1.out.size))
    clear b3
    go_wp2_with fail
    refine (CM.out _).mono ?_
    rintro e w4 ⟨rfl, b4⟩
    have HB4 := Lib.hid (HB3.out.trans (b4.mono HB3.out.size))
    clear b4
    go_wp2_with fail
    go_ret
    exact ⟨ret_str cat_nbr, HB4.out⟩
  · have e1 : ((N : Int) == 1) = false := by rw [beq_eq_false_iff_ne]; omega
    have e2 : ((N : Int) == 255) = false := by rw [beq_eq_false_iff_ne]; omega
    have a1 : ¬ (128 : Int) < (N : Int) := by omega
    clear hn hn2 h3
    go_enter Try.func86, Try.ntmps86
    go_wp2_with fail
    clear u0 u1 u2 u3
    refine CI.out.mono ?_
    rintro e w1 ⟨rfl, b1⟩
    have hS1 := HSW.out.kept b1
    have HB1 := Lib.hid (HBW.out.trans (b1.mono HBW.out.size))
    obtain ⟨y0, y1, y2, y3⟩ := hS1.y4
    have hwl : w.heap.size < w1.heap.size := Blk.lt hS1
    clear b1 hS1
    go_wp2_with fail
    go_ret
    exact ⟨ret_str cat_br, HB1.out⟩
  · have e1 : ((N : Int) == 1) = false := by rw [beq_eq_false_iff_ne]; omega
    have e2 : ((N : Int) == 255) = false := by rw [beq_eq_false_iff_ne]; omega
    have a1 : (128 : Int) < (N : Int) := by omega
    have a2 : ¬ (N : Int) < 256 := by omega
    clear hn
    go_enter Try.func86, Try.ntmps86
    go_wp2_with fail
    clear u0 u1 u2 u3
    refine CI.out.mono ?_
    rintro e w1 ⟨rfl, b1⟩
    have hS1 := HSW.out.kept b1
    have HB1 := Lib.hid (HBW.out.trans (b1.mono HBW.out.size))
    obtain ⟨y0, y1, y2, y3⟩ := hS1.y4
    have hwl : w.heap.size < w1.heap.size := Blk.lt hS1
    clear b1 hS1
    go_wp2_with fail
    go_ret
    exact ⟨ret_str cat_br, HB1.out⟩
end Go.Proofs.Ytckinkapbfaceaa
