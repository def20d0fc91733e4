/- Walks: wickref.bits at the decoder's closure, wickref.numbers. (Printed by gen_b64e.py.) -/
import Derived.Test.YthfolopnjmkllaaDoorB64D
namespace Go.Proofs.YthfolopnjmkllaaDoor
open Go.RowKit
set_option linter.unusedVariables false
set_option linter.unusedSimpArgs false

theorem fnd_sx : ∀ c : UInt8, fndL sgL [c] 0 = sx c := all_bytes (by decide +kernel)
def bit6s (V : List Nat) : List Nat := V.flatMap (bitsL 6)
theorem bit6s_len (l : List Nat) : (bit6s l).length = 6 * l.length := by
  induction l with
  | nil => rfl
  | cons b l ih => unfold bit6s at *; rw [List.flatMap_cons, List.length_append, ih, bitsL_len, List.length_cons]; omega
theorem bit6s_step (s : ByteArray) (k : Nat) (h : k < s.size) : bit6s (sxs (s.data.toList.take (k + 1))) = bit6s (sxs (s.data.toList.take k)) ++ bitsL 6 (sx s[k]).toNat := by
  rw [sxs_snoc s k h]; simp [bit6s]

theorem dec1_any (c : UInt8) (w : World) :
    Calls Tryd.prog 60 #[.int .u8 c.toNat] w fun e w' => e = .returned (.int .i64 (sx c)) ∧ Below w.heap.size w w' := by
  obtain ⟨c1, c2⟩ := byte_lt c
  have hcv : (convert 72 9 (.slice (some ⟨w.heap.size, 0, none⟩) 1 1)).run Tryd.prog (w.alloc (.cells #[.int .u8 c.toNat] 5)) = .ok (.string (str [c])) (w.alloc (.cells #[.int .u8 c.toNat] 5)) := by
    have := conv_one w c.toNat
    rw [show (UInt8.ofNat (c.toNat : Int).toNat) = c by simp] at this
    exact this
  have HF : Hid (Calls Tryd.prog 61 #[.string (ByteArray.mk #[65, 66, 67, 68, 69, 70, 71, 72, 73, 74, 75, 76, 77, 78, 79, 80, 81, 82, 83, 84, 85, 86, 87, 88, 89, 90, 97, 98, 99, 100, 101, 102, 103, 104, 105, 106, 107, 108, 109, 110, 111, 112, 113, 114, 115, 116, 117, 118, 119, 120, 121, 122, 48, 49, 50, 51, 52, 53, 54, 55, 56, 57, 43, 47]), .string (str [c]), .int .i64 0] (w.alloc (.cells #[.int .u8 c.toNat] 5)) fun e w' => e = .returned (.int .i64 (sx c)) ∧ (w.alloc (.cells #[.int .u8 c.toNat] 5)) = w') := by
    have h := Find_any (ByteArray.mk #[65, 66, 67, 68, 69, 70, 71, 72, 73, 74, 75, 76, 77, 78, 79, 80, 81, 82, 83, 84, 85, 86, 87, 88, 89, 90, 97, 98, 99, 100, 101, 102, 103, 104, 105, 106, 107, 108, 109, 110, 111, 112, 113, 114, 115, 116, 117, 118, 119, 120, 121, 122, 48, 49, 50, 51, 52, 53, 54, 55, 56, 57, 43, 47]) (str [c]) 0 (w.alloc (.cells #[.int .u8 c.toNat] 5)) (by rw [signs_size]; omega) (by rw [size_str]; simp) (by omega) (by omega)
    refine h.mono fun e w' hh => ⟨?_, hh.2⟩
    rw [hh.1, show (str [c]).data.toList = [c] from lst_str _, show (ByteArray.mk #[65, 66, 67, 68, 69, 70, 71, 72, 73, 74, 75, 76, 77, 78, 79, 80, 81, 82, 83, 84, 85, 86, 87, 88, 89, 90, 97, 98, 99, 100, 101, 102, 103, 104, 105, 106, 107, 108, 109, 110, 111, 112, 113, 114, 115, 116, 117, 118, 119, 120, 121, 122, 48, 49, 50, 51, 52, 53, 54, 55, 56, 57, 43, 47]).data.toList = sgL from rfl, show (0 : Int).toNat = 0 from rfl, fnd_sx]
  go_enter Tryd.func60, Tryd.ntmps60
  go_wp2_with fail
  refine HF.out.mono ?_
  rintro e w' ⟨rfl, rfl⟩
  go_wp2_with fail
  go_ret
  exact ⟨rfl, (Below.refl _ _).alloc (Nat.le_refl _) _⟩

def Bits6 (s : ByteArray) (w : World) (e : Ending) (w' : World) : Prop := Below w.heap.size w w' ∧
  ((∃ c ∈ s.data.toList, sx c < 0) ∧ e = .returned (.tuple #[.slice none 0 0, .bool false]) ∨
   (∀ c ∈ s.data.toList, 0 ≤ sx c) ∧ ∃ v, e = .returned (.tuple #[v, .bool true]) ∧ OI w' w.heap.size v (ibits (bit6s (sxs s.data.toList))))

set_option maxHeartbeats 1000000 in
theorem bits6_any (s : ByteArray) (w : World) (hs : s.size ≤ 1048576000) :
    Calls Tryd.prog 59 #[.string s, .func (.func 60) #[] #[], .int .i64 6] w (Bits6 s w) := by
  go_enter Tryd.func59, Tryd.ntmps59
  go_wp2
  go_loopw [8, 9] (fun v i wr => ∃ k : Nat, k ≤ s.size ∧ i = .int .i64 k ∧ OI wr w.heap.size v (ibits (bit6s (sxs (s.data.toList.take k)))) ∧ Hid (∀ c ∈ s.data.toList.take k, 0 ≤ sx c) ∧ Below w.heap.size w wr) (fun _ i _ => s.size - (intOf i).toNat)
  case atStart => exact ⟨0, by omega, rfl, OI.nil _ _, by intro c hc; simp at hc, Below.refl _ _⟩
  case round =>
    obtain ⟨k, hk, rfl, hown, HA, hbl⟩ := hrel
    have HO := Lib.hid hown
    have hsz := hbl.size
    have HB := Lib.hid hbl
    clear hown hbl
    have hl := bit6s_len (sxs (s.data.toList.take k))
    rw [sxs_len, take_len s k hk] at hl
    by_cases hlt : k < s.size
    · have hsx := sx_facts s[k]
      have HM : Hid (s[k] ∈ s.data.toList) := by show _ ∈ _; rw [← lst_get s k hlt]; exact List.getElem_mem _
      by_cases hv : sx s[k] < 0
      · go_wp2_with fail
        refine (dec1_any s[k] _).mono ?_
        rintro e w1 ⟨rfl, hb1⟩
        have HB1 := Lib.hid (HB.out.trans (hb1.mono hsz))
        clear hb1
        go_wp2_with fail
        go_ret2
        exact ⟨HB1.out, .inl ⟨⟨_, HM.out, hv⟩, rfl⟩⟩
      · obtain ⟨V, hV⟩ : ∃ V : Nat, sx s[k] = V := ⟨(sx s[k]).toNat, by omega⟩
        have HV : Hid ((sx s[k]).toNat = V) := by show _ = _; omega
        have HC : Hid (Calls Tryd.prog 60 #[.int .u8 s[k].toNat] wr fun e w' => e = .returned (.int .i64 V) ∧ Below wr.heap.size wr w') := by
          have := dec1_any s[k] wr
          rw [hV] at this; exact this
        have HA2 : Hid (∀ c ∈ s.data.toList.take (k + 1), 0 ≤ sx c) := by
          intro c hc
          rw [take_snoc s k hlt, List.mem_append] at hc
          rcases hc with hc | hc
          · exact HA.out c hc
          · rw [List.mem_singleton] at hc; rw [hc]; omega
        have hV6 : (V : Int) < 64 := by omega
        clear hv hV hsx
        go_wp2_with fail
        refine HC.out.mono ?_
        rintro e w1 ⟨rfl, hb1⟩
        have HO1 := Lib.hid (HO.out.kept hb1)
        have hsz1 : w.heap.size ≤ w1.heap.size := by have := hb1.size; omega
        have HB1 := Lib.hid (HB.out.trans (hb1.mono hsz))
        clear hb1 HO HB
        go_wp2_with fail
        obtain ⟨L, hL⟩ : ∃ L, L = bit6s (sxs (s.data.toList.take k)) := ⟨_, rfl⟩
        rw [← hL] at hl HO1
        have HL := Lib.hid hL
        clear hL
        go_loopw [8, 11] (fun v i wr => ∃ j : Nat, j ≤ 6 ∧ i = .int .i64 (5 - j) ∧ OI wr w.heap.size v (ibits (L ++ (List.range j).map fun i => V / 2 ^ (5 - i) % 2)) ∧ Below w.heap.size w wr) (fun _ i _ => (intOf i + 1).toNat)
        case atStart => exact ⟨0, by omega, rfl, by simpa using HO1.out, HB1.out⟩
        case round =>
          obtain ⟨j, hj, rfl, hown, hbl⟩ := hrel
          clear HO1 HB1 hsz
          have HO := Lib.hid hown
          have hsz := hbl.size
          have HB := Lib.hid hbl
          clear hown hbl
          by_cases hj8 : j < 6
          · have hq : 0 ≤ (V : Int) / 2 ^ (5 - j) := Int.ediv_nonneg (by omega) (Int.le_of_lt (Int.pow_pos (by decide)))
            have hq2 := bit_cast V (5 - j)
            have HQ := Lib.hid hq2
            clear hq2
            go_wp2_with (at_builtin; refine wpL_appI rfl (.tmp 31) (.tmp 36) rfl HO.out rfl _ (ibits [V / 2 ^ (5 - j) % 2]) (by simp only [ibits, List.map_cons, List.map_nil, iv]; rw [HQ.out]) rfl (by rw [ibits_len, ibits_len, List.length_append, List.length_map, List.length_range, List.length_cons, List.length_nil]; omega) hsz ?_; intro v' w1 ho1 hb1)
            exact ⟨⟨j + 1, by omega, vI (by omega), by rw [List.range_succ, List.map_append, ← List.append_assoc, ibits_app]; exact ho1, HB.out.trans hb1⟩, by simp [intOf]; omega⟩
          · obtain rfl : j = 6 := by omega
            go_wp2
            exact ⟨⟨k + 1, by omega, by go_num, by rw [bit6s_step s k hlt, ← HL.out, HV.out]; exact HO.out, HA2, HB.out⟩, by simp [intOf]; omega⟩
    · have HT := Lib.hid (take_all s (show s.size ≤ k by omega))
      rw [HT.out] at HO HA
      go_wp2
      go_ret2
      exact ⟨HB.out, .inr ⟨HA.out, _, rfl, HO.out⟩⟩

theorem valL_snoc (l : List Nat) (b : Nat) : valL (l ++ [b]) = 2 * valL l + b := by simp [valL]
theorem valL_lt : ∀ (l : List Nat), (∀ b ∈ l, b < 2) → valL l < 2 ^ l.length := by
  intro l
  induction l using snoc_ind with
  | h0 => intro _; simp [valL]
  | h1 l b ih =>
    intro h
    have h1 := ih fun x hx => h x (by simp [hx])
    have h2 := h b (by simp)
    rw [valL_snoc, List.length_append, List.length_cons, List.length_nil, Nat.pow_succ]; omega
theorem take_app {l : List Nat} {k : Nat} (h : k < l.length) : l.take (k + 1) = l.take k ++ [l[k]] := List.take_succ_eq_append_getElem h

set_option maxHeartbeats 1000000 in
theorem numbers6_any (v : Value) (L : List Nat) (B : Nat) (w : World) (ho : OI w B v (ibits L)) (hb : ∀ b ∈ L, b < 2) (hL : L.length ≤ 10485760000) :
    Calls Tryd.prog 62 #[v, .int .i64 6] w fun e w' => ∃ v', e = .returned v' ∧ OI w' w.heap.size v' (ibits (numL 6 L)) ∧ Below w.heap.size w w' := by
  obtain ⟨A, c, rfl⟩ := ho.form
  have hR : Reads w w.heap.size 1 A L.length ((ibits L).map iv) := by
    have h2 : World.ownsRow w B 3 1 (.slice A L.length c) L.length ((ibits L).map iv) := by have := ho; unfold OI at this; rw [ibits_len] at this; exact this
    exact Reads.of_own h2
  rw [ibits_len]
  have HR := Lib.hid hR
  clear hR ho
  go_enter Tryd.func62, Tryd.ntmps62
  go_wp2
  go_loopw [5, 6] (fun u i wr => ∃ j p : Nat, p = j * 6 ∧ p ≤ L.length ∧ i = .int .i64 p ∧ OI wr w.heap.size u (ibits ((List.range j).map fun j => valL ((L.drop (j * 6)).take 6))) ∧ Below w.heap.size w wr) (fun _ i _ => L.length - (intOf i).toNat)
  case atStart => exact ⟨0, 0, rfl, by omega, rfl, OI.nil _ _, Below.refl _ _⟩
  case round =>
    obtain ⟨j, p, hp, hpl, rfl, hown, hbl⟩ := hrel
    have hp1 : p ≤ j * 6 := by omega
    have hp2 : j * 6 ≤ p := by omega
    have HP := Lib.hid hp
    have HO := Lib.hid hown
    have hsz := hbl.size
    have HB := Lib.hid hbl
    clear hown hbl hp
    by_cases hlt : p + 6 ≤ L.length
    · go_wp2
      obtain ⟨M, hM⟩ : ∃ M, M = (L.drop p).take 6 := ⟨_, rfl⟩
      have hMl : M.length = 6 := by rw [hM, List.length_take, List.length_drop]; omega
      have hMb : ∀ b ∈ M, b < 2 := fun b h => hb b (List.mem_of_mem_drop (List.mem_of_mem_take (hM ▸ h)))
      have hMg : ∀ k (h : k < M.length), ∃ ad, A = some ad ∧ wr.cell? (ad.add (p + k)) = some (iv (M[k] : Nat)) := by
        intro k h
        have HR2 := HR.out.below HB.out
        obtain ⟨ad, u, e1, e2, e3, e4⟩ := HR2.at_ (k := p + k) (by omega)
        refine ⟨ad, e1, ?_⟩
        rw [e4, ← e3]
        simp only [ibits, List.getElem?_map, hM, List.getElem_take, List.getElem_drop, List.getElem?_eq_getElem (show p + k < L.length by omega), Option.map_some]
      have HM := Lib.hid hM
      have HMb := Lib.hid hMb
      have HMg := Lib.hid hMg
      clear hM hMb hMg
      go_loop [7, 8] (fun n k => ∃ q : Nat, q ≤ 6 ∧ k = .int .i64 q ∧ n = .int .i64 (valL (M.take q) : Nat)) (fun _ k => 6 - (intOf k).toNat)
      case atStart => exact ⟨0, by omega, rfl, rfl⟩
      case round =>
        obtain ⟨q, hq, rfl, rfl⟩ := hrel
        have hvl : valL (M.take q) < 2 ^ 10 := by
          have h1 := valL_lt (M.take q) fun b h => HMb.out b (List.mem_of_mem_take h)
          have h2 : (M.take q).length ≤ 10 := by rw [List.length_take]; omega
          exact Nat.lt_of_lt_of_le h1 (Nat.pow_le_pow_right (by decide) h2)
        by_cases hq6 : q < 6
        · obtain ⟨ad, rfl, hcell⟩ := HMg.out q (by omega)
          unfold iv at hcell
          have hmb := HMb.out M[q] (List.getElem_mem _)
          have HS : Hid (valL (M.take (q + 1)) = 2 * valL (M.take q) + M[q]) := by show _ = _; rw [take_app (by omega), valL_snoc]
          go_wp2
          exact ⟨⟨q + 1, by omega, by go_num, by rw [HS.out]; exact vI (by omega)⟩, by simp [intOf]; omega⟩
        · obtain rfl : q = 6 := by omega
          have HMt : Hid (M.take 6 = M) := List.take_of_length_le (by omega)
          rw [HMt.out] at hvl ⊢
          have hd0 : decide ((6 : Int) < 6) = false := rfl
          go_wp2_with (at_builtin; refine wpL_appI (w := wr) rfl (.tmp 32) (.tmp 34) rfl HO.out rfl _ (ibits [valL M]) rfl rfl (by rw [ibits_len, ibits_len, List.length_map, List.length_range, List.length_cons, List.length_nil]; omega) hsz ?_; intro v' w1 ho1 hb1)
          exact ⟨⟨j + 1, p + 6, by omega, by omega, by go_num, by rw [List.range_succ, List.map_append, ibits_app, List.map_cons, List.map_nil, ← HP.out, ← HM.out]; exact ho1, HB.out.trans hb1⟩, by simp [intOf]; omega⟩
    · have HJ : Hid (j = L.length / 6) := by show _ = _; omega
      rw [HJ.out] at HO
      go_wp2
      go_ret
      exact ⟨_, rfl, HO.out, HB.out⟩

set_option maxHeartbeats 1000000 in
theorem numbers8_any (v : Value) (L : List Nat) (B : Nat) (w : World) (ho : OI w B v (ibits L)) (hb : ∀ b ∈ L, b < 2) (hL : L.length ≤ 10485760000) :
    Calls Tryd.prog 62 #[v, .int .i64 8] w fun e w' => ∃ v', e = .returned v' ∧ OI w' w.heap.size v' (ibits (numL 8 L)) ∧ Below w.heap.size w w' := by
  obtain ⟨A, c, rfl⟩ := ho.form
  have hR : Reads w w.heap.size 1 A L.length ((ibits L).map iv) := by
    have h2 : World.ownsRow w B 3 1 (.slice A L.length c) L.length ((ibits L).map iv) := by have := ho; unfold OI at this; rw [ibits_len] at this; exact this
    exact Reads.of_own h2
  rw [ibits_len]
  have HR := Lib.hid hR
  clear hR ho
  go_enter Tryd.func62, Tryd.ntmps62
  go_wp2
  go_loopw [5, 6] (fun u i wr => ∃ j p : Nat, p = j * 8 ∧ p ≤ L.length ∧ i = .int .i64 p ∧ OI wr w.heap.size u (ibits ((List.range j).map fun j => valL ((L.drop (j * 8)).take 8))) ∧ Below w.heap.size w wr) (fun _ i _ => L.length - (intOf i).toNat)
  case atStart => exact ⟨0, 0, rfl, by omega, rfl, OI.nil _ _, Below.refl _ _⟩
  case round =>
    obtain ⟨j, p, hp, hpl, rfl, hown, hbl⟩ := hrel
    have hp1 : p ≤ j * 8 := by omega
    have hp2 : j * 8 ≤ p := by omega
    have HP := Lib.hid hp
    have HO := Lib.hid hown
    have hsz := hbl.size
    have HB := Lib.hid hbl
    clear hown hbl hp
    by_cases hlt : p + 8 ≤ L.length
    · go_wp2
      obtain ⟨M, hM⟩ : ∃ M, M = (L.drop p).take 8 := ⟨_, rfl⟩
      have hMl : M.length = 8 := by rw [hM, List.length_take, List.length_drop]; omega
      have hMb : ∀ b ∈ M, b < 2 := fun b h => hb b (List.mem_of_mem_drop (List.mem_of_mem_take (hM ▸ h)))
      have hMg : ∀ k (h : k < M.length), ∃ ad, A = some ad ∧ wr.cell? (ad.add (p + k)) = some (iv (M[k] : Nat)) := by
        intro k h
        have HR2 := HR.out.below HB.out
        obtain ⟨ad, u, e1, e2, e3, e4⟩ := HR2.at_ (k := p + k) (by omega)
        refine ⟨ad, e1, ?_⟩
        rw [e4, ← e3]
        simp only [ibits, List.getElem?_map, hM, List.getElem_take, List.getElem_drop, List.getElem?_eq_getElem (show p + k < L.length by omega), Option.map_some]
      have HM := Lib.hid hM
      have HMb := Lib.hid hMb
      have HMg := Lib.hid hMg
      clear hM hMb hMg
      go_loop [7, 8] (fun n k => ∃ q : Nat, q ≤ 8 ∧ k = .int .i64 q ∧ n = .int .i64 (valL (M.take q) : Nat)) (fun _ k => 8 - (intOf k).toNat)
      case atStart => exact ⟨0, by omega, rfl, rfl⟩
      case round =>
        obtain ⟨q, hq, rfl, rfl⟩ := hrel
        have hvl : valL (M.take q) < 2 ^ 10 := by
          have h1 := valL_lt (M.take q) fun b h => HMb.out b (List.mem_of_mem_take h)
          have h2 : (M.take q).length ≤ 10 := by rw [List.length_take]; omega
          exact Nat.lt_of_lt_of_le h1 (Nat.pow_le_pow_right (by decide) h2)
        by_cases hq6 : q < 8
        · obtain ⟨ad, rfl, hcell⟩ := HMg.out q (by omega)
          unfold iv at hcell
          have hmb := HMb.out M[q] (List.getElem_mem _)
          have HS : Hid (valL (M.take (q + 1)) = 2 * valL (M.take q) + M[q]) := by show _ = _; rw [take_app (by omega), valL_snoc]
          go_wp2
          exact ⟨⟨q + 1, by omega, by go_num, by rw [HS.out]; exact vI (by omega)⟩, by simp [intOf]; omega⟩
        · obtain rfl : q = 8 := by omega
          have HMt : Hid (M.take 8 = M) := List.take_of_length_le (by omega)
          rw [HMt.out] at hvl ⊢
          have hd0 : decide ((8 : Int) < 8) = false := rfl
          go_wp2_with (at_builtin; refine wpL_appI (w := wr) rfl (.tmp 32) (.tmp 34) rfl HO.out rfl _ (ibits [valL M]) rfl rfl (by rw [ibits_len, ibits_len, List.length_map, List.length_range, List.length_cons, List.length_nil]; omega) hsz ?_; intro v' w1 ho1 hb1)
          exact ⟨⟨j + 1, p + 8, by omega, by omega, by go_num, by rw [List.range_succ, List.map_append, ibits_app, List.map_cons, List.map_nil, ← HP.out, ← HM.out]; exact ho1, HB.out.trans hb1⟩, by simp [intOf]; omega⟩
    · have HJ : Hid (j = L.length / 8) := by show _ = _; omega
      rw [HJ.out] at HO
      go_wp2
      go_ret
      exact ⟨_, rfl, HO.out, HB.out⟩
end Go.Proofs.YthfolopnjmkllaaDoor
