/- Walk: wickref.Base64Encode. -/
import Derived.Test.YthfolopnjmkllaaDoorB64E
namespace Go.Proofs.YthfolopnjmkllaaDoor
open Go.RowKit
set_option linter.unusedVariables false
set_option linter.unusedSimpArgs false

theorem bitsL_lt (wide v : Nat) : ∀ b ∈ bitsL wide v, b < 2 := by
  intro b h; obtain ⟨i, _, rfl⟩ := List.mem_map.1 h; omega
theorem bit8s_lt (l : List UInt8) : ∀ b ∈ bit8s l, b < 2 := by
  intro b h; obtain ⟨c, _, hc⟩ := List.mem_flatMap.1 h; exact bitsL_lt _ _ b hc
theorem bit6s_lt (l : List Nat) : ∀ b ∈ bit6s l, b < 2 := by
  intro b h; obtain ⟨c, _, hc⟩ := List.mem_flatMap.1 h; exact bitsL_lt _ _ b hc
theorem numL_lt {wide : Nat} {L : List Nat} (h : ∀ b ∈ L, b < 2) : ∀ n ∈ numL wide L, n < 2 ^ wide := by
  intro n hn
  obtain ⟨j, _, rfl⟩ := List.mem_map.1 hn
  have h1 := valL_lt ((L.drop (j * wide)).take wide) fun b hb => h b (List.mem_of_mem_drop (List.mem_of_mem_take hb))
  exact Nat.lt_of_lt_of_le h1 (Nat.pow_le_pow_right (by decide) (by rw [List.length_take]; omega))
theorem numL_len (wide : Nat) (L : List Nat) : (numL wide L).length = L.length / wide := by simp [numL]
theorem repl_snoc {α : Type} (j : Nat) (a : α) : List.replicate (j + 1) a = List.replicate j a ++ [a] := by rw [List.replicate_succ']
/-- a slice of a string of one sign -/
theorem sign_ext (N : Nat) (h : N < 64) (S : ByteArray) (hS : S.data.toList = sgL) (L : List UInt8) : str L ++ S.extract N (N + 1) = str (L ++ [sg N]) := by
  have hsz : S.size = 64 := by rw [← lst_len, hS]; rfl
  rw [cat_ext1 L S N (by omega)]
  congr 3
  have := lst_get? S N (by omega)
  rw [hS] at this
  unfold sg
  rw [List.getD, this]; rfl

def sllen (v : Value) : Nat := match v with | .slice _ n _ => n | _ => 0
set_option maxHeartbeats 4000000 in
theorem B64Encode_any (s : ByteArray) (w : World) (hs : s.size ≤ 1048576) :
    Calls Tryd.prog 63 #[.string s] w fun e w' => e = .returned (.string (str (encB s.data.toList))) ∧ Below w.heap.size w w' := by
  go_enter Tryd.func63, Tryd.ntmps63
  go_wp2_with fail
  refine (bits8_any s _ (by omega)).mono ?_
  rintro e w1 ⟨v, rfl, ho, hb1⟩
  have HO1 := Lib.hid ho
  have hsz1 := hb1.size
  have HB1 := Lib.hid hb1
  clear ho hb1
  go_wp2_with fail
  obtain ⟨L, hL⟩ : ∃ L, L = bit8s s.data.toList := ⟨_, rfl⟩
  have hLl : L.length = 8 * s.size := by rw [hL, bit8s_len, lst_len]
  have hLb : ∀ b ∈ L, b < 2 := by rw [hL]; exact bit8s_lt _
  rw [← hL] at HO1
  have HL := Lib.hid hL
  have HLb := Lib.hid hLb
  clear hL hLb
  obtain ⟨P, hP⟩ : ∃ P, P = (6 - L.length % 6) % 6 := ⟨_, rfl⟩
  have hP6 : P < 6 := by omega
  go_loopw [3] (fun v wr => ∃ j : Nat, j ≤ P ∧ OI wr w.heap.size v (ibits (L ++ List.replicate j 0)) ∧ Below w.heap.size w wr) (fun v wr => P + 8 * s.size - sllen v)
  case atStart => exact ⟨0, by omega, by simpa using HO1.out, HB1.out⟩
  case round =>
    obtain ⟨j, hj, hown, hbl⟩ := hrel
    have hln : (ibits (L ++ List.replicate j 0)).length = 8 * s.size + j := by rw [ibits_len, List.length_append, List.length_replicate, hLl]
    obtain ⟨A, c, rfl⟩ := hown.form
    rw [hln] at hown ⊢
    have HO := Lib.hid hown
    have hsz := hbl.size
    have HB := Lib.hid hbl
    clear hown hbl
    by_cases hjP : j < P
    · have t1 : ((8 * (s.size : Int) + (j : Int)) % 6 != 0) = true := by rw [bne_iff_ne]; omega
      have t2 : ((8 * (s.size : Int) + (j : Int)) % 6 == 0) = false := by rw [beq_eq_false_iff_ne]; omega
      go_wp2_with (at_builtin; refine wpL_appI (w := wr) rfl (.tmp 17) (.tmp 18) rfl HO.out rfl _ (ibits [0]) rfl rfl (by rw [hln, ibits_len, List.length_cons, List.length_nil]; omega) hsz ?_; intro v' w1 ho1 hb1)
      have ho2 : OI w1 w.heap.size v' (ibits (L ++ List.replicate (j + 1) 0)) := by rw [repl_snoc, ← List.append_assoc, ibits_app]; exact ho1
      refine ⟨⟨j + 1, by omega, ho2, HB.out.trans hb1⟩, ?_⟩
      obtain ⟨A2, c2, rfl⟩ := ho2.form
      rw [ibits_len, List.length_append, List.length_replicate]
      simp only [sllen]; omega
    · obtain rfl : j = P := by omega
      have t1 : ((8 * (s.size : Int) + (j : Int)) % 6 != 0) = false := by rw [bne_eq_false_iff_eq]; omega
      have t2 : ((8 * (s.size : Int) + (j : Int)) % 6 == 0) = true := by rw [beq_iff_eq]; omega
      have hpad : padTo 6 0 L = L ++ List.replicate j 0 := by unfold padTo; rw [← hP]
      have hbb : ∀ b ∈ padTo 6 0 L, b < 2 := by
        rw [hpad]; intro b hb
        rw [List.mem_append] at hb
        rcases hb with hb | hb
        · exact HLb.out b hb
        · rw [List.eq_of_mem_replicate hb]; decide
      rw [← hpad] at HO
      have hpl : (padTo 6 0 L).length = 8 * s.size + j := by rw [hpad, List.length_append, List.length_replicate, hLl]
      have HC := Lib.hid (numbers6_any _ _ _ wr HO.out hbb (by omega))
      have HNL := Lib.hid (numL_lt (wide := 6) hbb)
      have HN0 := Lib.hid (numL_len 6 (padTo 6 0 L))
      rw [hpl] at HN0
      clear hpad hbb hpl hP
      go_wp2_with fail
      refine HC.out.mono ?_
      rintro e w2 ⟨v2, rfl, ho2, hb2⟩
      obtain ⟨N, hN⟩ : ∃ N, N = numL 6 (padTo 6 0 L) := ⟨_, rfl⟩
      rw [← hN] at ho2 HNL HN0
      have hNl : N.length ≤ 1398200 := by have := HN0.out; omega
      obtain ⟨A2, c2, rfl⟩ := ho2.form
      have hR : Reads w2 w2.heap.size 1 A2 N.length ((ibits N).map iv) := by
        have h2 : World.ownsRow w2 wr.heap.size 3 1 (.slice A2 N.length c2) N.length ((ibits N).map iv) := by have := ho2; unfold OI at this; rw [ibits_len] at this; exact this
        exact Reads.of_own h2
      rw [ibits_len]
      have HR := Lib.hid hR
      have HB2 := Lib.hid (HB.out.trans (hb2.mono hsz))
      have HNN := Lib.hid hN
      clear hR hb2 ho2 HC HO HN0 hN
      go_wp2_with fail
      go_loopw [5, 7] (fun o i wr => ∃ q : Nat, q ≤ N.length ∧ i = .int .i64 q ∧ o = .string (str ((N.take q).map sg)) ∧ ∃ d, wr = w2.drewN d) (fun _ i _ => N.length - (intOf i).toNat)
      case atStart => exact ⟨0, by omega, rfl, rfl, 0, rfl⟩
      case round =>
        obtain ⟨q, hq, rfl, rfl, d, rfl⟩ := hrel
        by_cases hqN : q < N.length
        · have hnq := HNL.out N[q] (List.getElem_mem _)
          have hnq2 : N[q] < 64 := hnq
          clear hnq
          obtain ⟨ad, u, rfl, e2, e3, hcell⟩ := HR.out.at_ hqN
          have e4 : u = .int .i64 (N[q] : Nat) := by
            simp only [ibits, List.getElem?_map, List.getElem?_eq_getElem hqN, Option.map_some] at e3
            exact (Option.some.inj e3).symm
          rw [e4] at hcell
          clear e4 e3 e2
          have i1 : (0 : Int) ≤ q ∧ (q : Int) < N.length := by omega
          have hA := Lib.hid (sign_ext N[q] hnq2 (ByteArray.mk #[65, 66, 67, 68, 69, 70, 71, 72, 73, 74, 75, 76, 77, 78, 79, 80, 81, 82, 83, 84, 85, 86, 87, 88, 89, 90, 97, 98, 99, 100, 101, 102, 103, 104, 105, 106, 107, 108, 109, 110, 111, 112, 113, 114, 115, 116, 117, 118, 119, 120, 121, 122, 48, 49, 50, 51, 52, 53, 54, 55, 56, 57, 43, 47]) rfl ((N.take q).map sg))
          have j1 : IntKind.i64.wrap ((N[q] : Int) + 1) = (N[q] : Int) + 1 := IntWalk.i64_in _ (by omega)
          have j2 : ((N[q] : Int) + 1).toNat = N[q] + 1 := by omega
          have hAs : (str ((N.take q).map sg)).size ≤ 1398200 := by rw [size_str, List.length_map, List.length_take]; omega
          go_wp2_with fail
          go_quiet (fail)
          go_wp2_with fail
          go_roundw
          case rel => exact ⟨q + 1, by omega, by go_num, ret_s (by rw [take_app hqN]; simp only [List.map_append, List.map_cons, List.map_nil]; simpa using hA.out), _, rfl⟩
          case measure => simp [intOf]; omega
        · have hqe : q = N.length := by omega
          have hqd : decide (q < N.length) = false := decide_eq_false hqN
          have HTk : Hid (N.take q = N) := List.take_of_length_le (by omega)
          rw [HTk.out]
          go_wp2_with fail
          obtain ⟨R, hR⟩ : ∃ R, R = (4 - N.length % 4) % 4 := ⟨_, rfl⟩
          have hR4 : R < 4 := by omega
          go_loop [5] (fun o => ∃ j : Nat, j ≤ R ∧ o = .string (str (N.map sg ++ List.replicate j 61))) (fun o => R + N.length - slen o)
          case atStart => exact ⟨0, by omega, by simp⟩
          case round =>
            obtain ⟨x, hx, rfl⟩ := hrel
            have hxs : (str (N.map sg ++ List.replicate x 61)).size = N.length + x := by rw [size_str, List.length_append, List.length_map, List.length_replicate]
            by_cases hxR : x < R
            · have t1 : (((N.length : Int) + (x : Int)) % 4 != 0) = true := by rw [bne_iff_ne]; omega
              have t2 : (((N.length : Int) + (x : Int)) % 4 == 0) = false := by rw [beq_eq_false_iff_ne]; omega
              have HX : Hid (str (N.map sg ++ List.replicate x 61) ++ { data := #[61] } = str (N.map sg ++ List.replicate (x + 1) 61)) := by
                show _ = _
                rw [repl_snoc, ← List.append_assoc]; exact cat_str _ [61]
              have HXs : Hid ((str (N.map sg ++ List.replicate (x + 1) 61)).size = N.length + (x + 1)) := by show _ = _; rw [size_str, List.length_append, List.length_map, List.length_replicate]
              go_wp2_with fail
              exact ⟨⟨x + 1, by omega, by rw [HX.out]⟩, by rw [HX.out]; simp only [slen]; rw [HXs.out, hxs]; omega⟩
            · obtain rfl : x = R := by omega
              have t1 : (((N.length : Int) + (x : Int)) % 4 != 0) = false := by rw [bne_eq_false_iff_eq]; omega
              have t2 : (((N.length : Int) + (x : Int)) % 4 == 0) = true := by rw [beq_iff_eq]; omega
              have HE : Hid (N.map sg ++ List.replicate x 61 = encB s.data.toList) := by
                show _ = _
                rw [← encR_eq]
                show _ = padTo 4 61 ((numL 6 (padTo 6 0 (bit8s s.data.toList))).map sg)
                rw [← HL.out, ← HNN.out, padTo, List.length_map, ← hR]
              rw [HE.out] at hxs ⊢
              clear hR
              go_wp2_with fail
              go_ret
              exact ⟨rfl, below_drewN HB2.out _⟩
end Go.Proofs.YthfolopnjmkllaaDoor
