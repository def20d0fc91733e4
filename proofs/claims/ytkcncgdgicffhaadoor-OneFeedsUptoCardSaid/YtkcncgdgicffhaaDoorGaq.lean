/- Walk: wickref.ReadHead. -/
import Derived.Test.YtkcncgdgicffhaaDoorGao
namespace Go.Proofs.YtkcncgdgicffhaaDoor
open Go.RowKit
set_option linter.unusedVariables false
set_option linter.unusedSimpArgs false

theorem has_one (x : ByteArray) (b : UInt8) (w : World) (hx : x.size ≤ 140737488355328) :
    Calls Tryd.prog 41 #[.string x, .string ⟨#[b]⟩] w fun e w' => e = .returned (.bool (decide (0 ≤ ixb x.data.toList (b.toNat : Int)))) ∧ w = w' := by
  have C := Find_any x ⟨#[b]⟩ 0 w hx (by show 1 ≤ _; omega) (by omega) (by omega)
  have e1 : fndL x.data.toList (⟨#[b]⟩ : ByteArray).data.toList (0 : Int).toNat = ixb x.data.toList (b.toNat : Int) := fnd_one _ _
  rw [e1] at C
  obtain ⟨i, hi⟩ : ∃ i, i = ixb x.data.toList (b.toNat : Int) := ⟨_, rfl⟩
  rw [← hi] at C ⊢
  have C := Lib.hid C
  clear hi e1
  go_enter Tryd.func41, Tryd.ntmps41
  go_wp2_with fail
  refine C.out.mono ?_
  rintro e w' ⟨rfl, rfl⟩
  go_wp2_with fail
  go_ret
  exact ⟨rfl, rfl⟩
theorem pcs_three {x a b c : ByteArray} {t : ByteArray} (hP : pcs x t = [a, b, c]) (ht : 1 ≤ t.size) (ht2 : t.size ≤ 140737488355328) (hx : x.size ≤ 1048576) (w : World) :
    Calls Tryd.prog 66 #[.string x, .string t] w fun e w' => ∃ g cp, e = .returned (.slice (some ⟨g, 0, none⟩) 3 cp) ∧ 3 ≤ cp ∧ w.heap.size ≤ g ∧ (w'.cell? ⟨g, 0, none⟩ = some (.string a) ∧ w'.cell? ⟨g, 1, none⟩ = some (.string b) ∧ w'.cell? ⟨g, 2, none⟩ = some (.string c)) ∧ Below w.heap.size w w' ∧ g < w'.heap.size :=
  (pieces_any x t w hx ht2 ht).mono fun e w' ⟨v, h1, h2, h3⟩ => by
    rw [hP] at h2
    obtain ⟨A, cp, rfl⟩ := h2.form
    obtain ⟨g, rfl, hg, hlt, hcp, hc⟩ := h2.at_ (by simp)
    exact ⟨g, cp, h1, hcp, hg, ⟨hc 0 (by simp), hc 1 (by simp), hc 2 (by simp)⟩, h3, hlt⟩
section
variable (s : ByteArray) (w : World)
set_option maxHeartbeats 1000000 in
theorem rh_large_ (h : 4096 < s.size) : Calls Tryd.prog 70 #[.string s] w (RhRes s w) := by
  have HE := Lib.hid (rh_large h)
  have d0 : (4096 : Int) < (s.size : Int) := by omega
  clear h
  obtain ⟨W, hW⟩ : ∃ W, w.alloc (.cells #[.string { data := #[] }, .string { data := #[] }, .slice none 0 0] 24) = W := ⟨_, rfl⟩
  have hZ := Hz.start w
  rw [hW] at hZ
  have HZ := Lib.hid hZ
  have hwW : w.heap.size < W.heap.size := hZ.lt
  obtain ⟨r0, r1, r2, f0, f1, f2⟩ := hZ.facts
  clear hZ
  go_enter Tryd.func70, Tryd.ntmps70
  go_wp2_with fail
  obtain ⟨wz, hwz, hbz, z0, z1, z2, _⟩ := HZ.out.put (.string { data := #[] }) (.string { data := #[] }) (.slice none 0 0)
  rw [← hwz]
  exact bodyPost_ret (v := .tuple #[.agg #[.string { data := #[] }, .string { data := #[] }, .slice none 0 0], .int .i64 5]) (by simp [results, Tryd.results70, go_sem, z0, z1, z2]) rfl ⟨_, by rw [HE.out.1], by rw [HE.out.2]; exact HdV.zero _ _, hbz⟩
set_option maxHeartbeats 1000000 in
theorem rh_noend (h : ¬ 4096 < s.size) (he : endOk s = false) : Calls Tryd.prog 70 #[.string s] w (RhRes s w) := by
  have HE := Lib.hid (rh_form h fun k => by rw [k.1.1] at he; cases he)
  have d0 : ¬ (4096 : Int) < (s.size : Int) := by omega
  have he' : (decide (4 ≤ s.size) && ((s.extract (s.size - 4) s.size).toList == crlf2.toList)) = false := he
  clear h he
  by_cases h4 : s.size < 4
  · have d1 : (s.size : Int) < 4 := by omega
    clear he' h4
    obtain ⟨W, hW⟩ : ∃ W, w.alloc (.cells #[.string { data := #[] }, .string { data := #[] }, .slice none 0 0] 24) = W := ⟨_, rfl⟩
    have hZ := Hz.start w
    rw [hW] at hZ
    have HZ := Lib.hid hZ
    have hwW : w.heap.size < W.heap.size := hZ.lt
    obtain ⟨r0, r1, r2, f0, f1, f2⟩ := hZ.facts
    clear hZ
    go_enter Tryd.func70, Tryd.ntmps70
    go_wp2_with fail
    obtain ⟨wz, hwz, hbz, z0, z1, z2, _⟩ := HZ.out.put (.string { data := #[] }) (.string { data := #[] }) (.slice none 0 0)
    rw [← hwz]
    exact bodyPost_ret (v := .tuple #[.agg #[.string { data := #[] }, .string { data := #[] }, .slice none 0 0], .int .i64 4]) (by simp [results, Tryd.results70, go_sem, z0, z1, z2]) rfl ⟨_, by rw [HE.out.1], by rw [HE.out.2]; exact HdV.zero _ _, hbz⟩
  · have d1 : ¬ (s.size : Int) < 4 := by omega
    have q0 : ((s.extract (s.size - 4) s.size).toList == [13, 10, 13, 10]) = false := by
      rw [decide_eq_true (by omega : 4 ≤ s.size), Bool.true_and] at he'
      have e : crlf2.toList = [13, 10, 13, 10] := by rw [Lib.toList_data]; rfl
      rw [← e]; exact he'
    have q1 : ((s.extract (s.size - 4) s.size).toList != [13, 10, 13, 10]) = true := by rw [bne, q0]; rfl
    have n1 : ((s.size : Int) - 4).toNat = s.size - 4 := by omega
    have n2 : (0 : Int) ≤ (s.size : Int) - 4 := by omega
    have n3 : (s.size : Int) - 4 ≤ (s.size : Int) := by omega
    have n4 : IntKind.i64.wrap ((s.size : Int) - 4) = (s.size : Int) - 4 := IntWalk.i64_in _ (by omega)
    clear he'
    obtain ⟨W, hW⟩ : ∃ W, w.alloc (.cells #[.string { data := #[] }, .string { data := #[] }, .slice none 0 0] 24) = W := ⟨_, rfl⟩
    have hZ := Hz.start w
    rw [hW] at hZ
    have HZ := Lib.hid hZ
    have hwW : w.heap.size < W.heap.size := hZ.lt
    obtain ⟨r0, r1, r2, f0, f1, f2⟩ := hZ.facts
    clear hZ
    go_enter Tryd.func70, Tryd.ntmps70
    go_wp2_with fail
    obtain ⟨wz, hwz, hbz, z0, z1, z2, _⟩ := HZ.out.put (.string { data := #[] }) (.string { data := #[] }) (.slice none 0 0)
    rw [← hwz]
    exact bodyPost_ret (v := .tuple #[.agg #[.string { data := #[] }, .string { data := #[] }, .slice none 0 0], .int .i64 4]) (by simp [results, Tryd.results70, go_sem, z0, z1, z2]) rfl ⟨_, by rw [HE.out.1], by rw [HE.out.2]; exact HdV.zero _ _, hbz⟩
set_option maxHeartbeats 2000000 in
theorem rh_nolines (h : ¬ 4096 < s.size) (he : endOk s = true) (hl : ¬ LinesOk s) : Calls Tryd.prog 70 #[.string s] w (RhRes s w) := by
  have HE := Lib.hid (rh_form h fun k => hl k.1)
  have d0 : ¬ (4096 : Int) < (s.size : Int) := by omega
  have he' : (decide (4 ≤ s.size) && ((s.extract (s.size - 4) s.size).toList == crlf2.toList)) = true := he
  rw [Bool.and_eq_true, decide_eq_true_eq] at he'
  obtain ⟨h4, he2⟩ := he'
  have d1 : ¬ (s.size : Int) < 4 := by omega
  have q0 : ((s.extract (s.size - 4) s.size).toList == [13, 10, 13, 10]) = true := by
    have e : crlf2.toList = [13, 10, 13, 10] := by rw [Lib.toList_data]; rfl
    rw [← e]; exact he2
  have q1 : ((s.extract (s.size - 4) s.size).toList != [13, 10, 13, 10]) = false := by rw [bne, q0]; rfl
  have n1 : ((s.size : Int) - 4).toNat = s.size - 4 := by omega
  have n2 : (0 : Int) ≤ (s.size : Int) - 4 := by omega
  have n3 : (s.size : Int) - 4 ≤ (s.size : Int) := by omega
  have n4 : IntKind.i64.wrap ((s.size : Int) - 4) = (s.size : Int) - 4 := IntWalk.i64_in _ (by omega)
  obtain ⟨W, hW⟩ : ∃ W, w.alloc (.cells #[.string { data := #[] }, .string { data := #[] }, .slice none 0 0] 24) = W := ⟨_, rfl⟩
  have hZ := Hz.start w
  rw [hW] at hZ
  have HZ := Lib.hid hZ
  have hwW : w.heap.size < W.heap.size := hZ.lt
  have C := pieces_any (s.extract 0 (s.size - 4)) crlf W (by rw [ByteArray.size_extract]; omega) (by decide) (by decide)
  obtain ⟨L, hL⟩ : ∃ L, L = pcs (s.extract 0 (s.size - 4)) crlf := ⟨_, rfl⟩
  have hL0 : 0 < L.length := by rw [hL]; exact pcs_pos _ _ (by decide)
  have hL1 : L.length ≤ 1048577 := by rw [hL]; have := pcs_le (s := s.extract 0 (s.size - 4)) (t := crlf) (by decide); rw [ByteArray.size_extract] at this; omega
  have HLs : Hid (∀ x ∈ L, x.size ≤ 4096) := fun x hx => by have := hls_mem (s := s) (x := x) (by rw [hL] at hx; exact hx); omega
  rw [← hL] at C
  have HN : Hid (¬ ∀ x ∈ L, LnOk x) := fun k => hl ⟨he, by rw [hL] at k; exact k⟩
  have C := Lib.hid C
  clear hZ hL he hl h he2
  go_enter Tryd.func70, Tryd.ntmps70
  go_wp2_with fail
  refine C.out.mono ?_
  rintro e w1 ⟨v, rfl, ho, b1⟩
  have hZ1 := HZ.out.kept b1
  obtain ⟨A, cp, rfl⟩ := ho.form
  obtain ⟨g, rfl, hg, hgl, hcp, hcell⟩ := ho.at_ hL0
  have HC := Lib.hid hcell
  have HZ1 := Lib.hid hZ1
  have hZ1' := HZ1.out
  obtain ⟨r0, r1, r2, f0, f1, f2⟩ := hZ1'.facts
  clear hcell ho b1 hZ1 C hW hZ1'
  go_wp2_with fail
  go_loop [5] (fun u => ∃ k : Nat, u = .int .i64 (k : Int) ∧ k ≤ L.length ∧ Hid (∀ x ∈ L.take k, LnOk x)) (fun u => L.length - (intOf u).toNat)
  case atStart => exact ⟨0, rfl, by omega, fun x hx => absurd hx (by simp)⟩
  case round =>
    obtain ⟨k, rfl, hk, HA⟩ := hrel
    by_cases hlk : k < L.length
    · have k1 : (k : Int) < (L.length : Int) := by omega
      have k2 : (0 : Int) ≤ (k : Int) := by omega
      obtain ⟨x, hx⟩ : ∃ x, x = L[k] := ⟨_, rfl⟩
      have y0 : w1.cell? ⟨g, k, none⟩ = some (.string x) := by rw [hx]; exact HC.out k hlk
      have HT : Hid (L.take (k + 1) = L.take k ++ [x]) := by show _ = _; rw [List.take_succ_eq_append_getElem hlk, hx]
      have hxs : x.size ≤ 4096 := HLs.out x (by rw [hx]; exact List.getElem_mem _)
      clear hx
      by_cases h0 : x.size = 0
      · have e0 := empty_is h0
        clear h0
        go_wp2_with fail
        obtain ⟨wz, hwz, hbz, z0, z1, z2, _⟩ := HZ1.out.put (.string { data := #[] }) (.string { data := #[] }) (.slice none 0 0)
        rw [← hwz]
        exact bodyPost_ret (v := .tuple #[.agg #[.string { data := #[] }, .string { data := #[] }, .slice none 0 0], .int .i64 4]) (by simp [results, Tryd.results70, go_sem, z0, z1, z2]) rfl ⟨_, by rw [HE.out.1], by rw [HE.out.2]; exact HdV.zero _ _, hbz⟩
      · have e0 := empty_no h0
        have C1 := has_one x 13 w1 (by omega)
        have C2 := has_one x 10 w1 (by omega)
        have HI : Hid (LnOk x ↔ ixb x.data.toList 13 < 0 ∧ ixb x.data.toList 10 < 0) := ⟨fun h => h.2, fun h => ⟨h0, h⟩⟩
        have e13 : ((13 : UInt8).toNat : Int) = 13 := rfl
        have e10 : ((10 : UInt8).toNat : Int) = 10 := rfl
        rw [e13] at C1
        rw [e10] at C2
        obtain ⟨i1, hi1⟩ : ∃ i, i = ixb x.data.toList 13 := ⟨_, rfl⟩
        obtain ⟨i2, hi2⟩ : ∃ i, i = ixb x.data.toList 10 := ⟨_, rfl⟩
        rw [← hi1] at C1 HI
        rw [← hi2] at C2 HI
        clear hi1 hi2 h0 e13 e10
        by_cases g1 : i1 < 0
        · rw [decide_eq_false (by omega : ¬ 0 ≤ i1)] at C1
          by_cases g2 : i2 < 0
          · rw [decide_eq_false (by omega : ¬ 0 ≤ i2)] at C2
            have HA2 : Hid (∀ y ∈ L.take (k + 1), LnOk y) := fun y hy => by
              rw [HT.out, List.mem_append, List.mem_singleton] at hy
              rcases hy with hy | rfl
              · exact HA.out y hy
              · exact HI.out.2 ⟨g1, g2⟩
            have C1 := Lib.hid C1
            have C2 := Lib.hid C2
            clear g1 g2
            go_wp2_with fail
            refine C1.out.mono ?_
            rintro e w' ⟨rfl, rfl⟩
            go_wp2_with fail
            refine C2.out.mono ?_
            rintro e w' ⟨rfl, rfl⟩
            go_wp2_with fail
            go_round
            case rel => exact ⟨k + 1, by go_num, by omega, HA2⟩
            case measure => simp [intOf]; omega
          · rw [decide_eq_true (by omega : 0 ≤ i2)] at C2
            have C1 := Lib.hid C1
            have C2 := Lib.hid C2
            clear g1 g2
            go_wp2_with fail
            refine C1.out.mono ?_
            rintro e w' ⟨rfl, rfl⟩
            go_wp2_with fail
            refine C2.out.mono ?_
            rintro e w' ⟨rfl, rfl⟩
            go_wp2_with fail
            obtain ⟨wz, hwz, hbz, z0, z1, z2, _⟩ := HZ1.out.put (.string { data := #[] }) (.string { data := #[] }) (.slice none 0 0)
            rw [← hwz]
            exact bodyPost_ret (v := .tuple #[.agg #[.string { data := #[] }, .string { data := #[] }, .slice none 0 0], .int .i64 4]) (by simp [results, Tryd.results70, go_sem, z0, z1, z2]) rfl ⟨_, by rw [HE.out.1], by rw [HE.out.2]; exact HdV.zero _ _, hbz⟩
        · rw [decide_eq_true (by omega : 0 ≤ i1)] at C1
          have C1 := Lib.hid C1
          clear g1 C2
          go_wp2_with fail
          refine C1.out.mono ?_
          rintro e w' ⟨rfl, rfl⟩
          go_wp2_with fail
          obtain ⟨wz, hwz, hbz, z0, z1, z2, _⟩ := HZ1.out.put (.string { data := #[] }) (.string { data := #[] }) (.slice none 0 0)
          rw [← hwz]
          exact bodyPost_ret (v := .tuple #[.agg #[.string { data := #[] }, .string { data := #[] }, .slice none 0 0], .int .i64 4]) (by simp [results, Tryd.results70, go_sem, z0, z1, z2]) rfl ⟨_, by rw [HE.out.1], by rw [HE.out.2]; exact HdV.zero _ _, hbz⟩
    · obtain rfl : k = L.length := by omega
      rw [List.take_length] at HA
      exact absurd HA.out HN.out
set_option maxHeartbeats 2000000 in
theorem rh_first (h : ¬ 4096 < s.size) (he : endOk s = true) (hl : LinesOk s) {x0 : ByteArray} {T : List ByteArray} (hL : hls s = x0 :: T) (hf : ¬ Fst3 s) : Calls Tryd.prog 70 #[.string s] w (RhRes s w) := by
  have HE := Lib.hid (rh_form h fun k => hf k.2.1)
  have d0 : ¬ (4096 : Int) < (s.size : Int) := by omega
  have he' : (decide (4 ≤ s.size) && ((s.extract (s.size - 4) s.size).toList == crlf2.toList)) = true := he
  rw [Bool.and_eq_true, decide_eq_true_eq] at he'
  obtain ⟨h4, he2⟩ := he'
  have d1 : ¬ (s.size : Int) < 4 := by omega
  have q0 : ((s.extract (s.size - 4) s.size).toList == [13, 10, 13, 10]) = true := by
    have e : crlf2.toList = [13, 10, 13, 10] := by rw [Lib.toList_data]; rfl
    rw [← e]; exact he2
  have q1 : ((s.extract (s.size - 4) s.size).toList != [13, 10, 13, 10]) = false := by rw [bne, q0]; rfl
  have n1 : ((s.size : Int) - 4).toNat = s.size - 4 := by omega
  have n2 : (0 : Int) ≤ (s.size : Int) - 4 := by omega
  have n3 : (s.size : Int) - 4 ≤ (s.size : Int) := by omega
  have n4 : IntKind.i64.wrap ((s.size : Int) - 4) = (s.size : Int) - 4 := IntWalk.i64_in _ (by omega)
  obtain ⟨W, hW⟩ : ∃ W, w.alloc (.cells #[.string { data := #[] }, .string { data := #[] }, .slice none 0 0] 24) = W := ⟨_, rfl⟩
  have hZ := Hz.start w
  rw [hW] at hZ
  have HZ := Lib.hid hZ
  have hwW : w.heap.size < W.heap.size := hZ.lt
  have C := pieces_any (s.extract 0 (s.size - 4)) crlf W (by rw [ByteArray.size_extract]; omega) (by decide) (by decide)
  have C : Calls Tryd.prog 66 #[.string (s.extract 0 (s.size - 4)), .string crlf] W fun e w' => ∃ v, e = .returned v ∧ OS w' W.heap.size v (x0 :: T) ∧ Below W.heap.size W w' := by rw [← hL]; exact C
  have hT : T.length ≤ 4097 := by
    have h1 : (hls s).length = T.length + 1 := by rw [hL]; rfl
    have h2 := pcs_le (s := s.extract 0 (s.size - 4)) (t := crlf) (by decide)
    rw [ByteArray.size_extract] at h2
    have h3 : (hls s).length ≤ _ := h2
    omega
  have hx0 : x0.size ≤ 1048576 := by have := hls_mem (s := s) (x := x0) (by rw [hL]; exact List.mem_cons_self); omega
  have HL := Lib.hid hL
  have HLk := Lib.hid hl.2
  have C := Lib.hid C
  have hfl : fls s = pcs x0 ⟨#[32]⟩ := by unfold fls; rw [hL]; rfl
  by_cases h3 : (pcs x0 ⟨#[32]⟩).length = 3
  · obtain ⟨a, b, c, hP⟩ : ∃ a b c, pcs x0 ⟨#[32]⟩ = [a, b, c] := by
      generalize pcs x0 ⟨#[32]⟩ = P at h3
      match P, h3 with
      | [a, b, c], _ => exact ⟨a, b, c, rfl⟩
    have hc : ¬ c = http11 := fun k => hf ⟨a, b, by rw [hfl, hP, k]⟩
    have p0 : (c.toList == [72, 84, 84, 80, 47, 49, 46, 49]) = false := by
      rw [beq_eq_false_iff_ne, Lib.toList_data]; intro k; exact hc (lst_inj k)
    have p1 : (c.toList != [72, 84, 84, 80, 47, 49, 46, 49]) = true := by rw [bne, p0]; rfl
    have C3 := Lib.hid fun w1 => pcs_three hP (by decide) (by decide) hx0 w1
    clear hZ hl hL hf hfl h3 hP hc he he2
    go_enter Tryd.func70, Tryd.ntmps70
    go_wp2_with fail
    refine C.out.mono ?_
    rintro e w1 ⟨v, rfl, ho, b1⟩
    have hZ1 := HZ.out.kept b1
    obtain ⟨A, cp, rfl⟩ := ho.form
    obtain ⟨g, rfl, hg, hgl, hcp, hcell⟩ := ho.at_ (by simp)
    have HC := Lib.hid hcell
    have HZ1 := Lib.hid hZ1
    rw [List.length_cons] at *
    have y0 : w1.cell? ⟨g, 0, none⟩ = some (.string x0) := HC.out 0 (by simp)
    clear hcell ho b1 hZ1 C hW
    go_wp2_with fail
    go_loop [5] (fun u => ∃ k : Nat, u = .int .i64 (k : Int) ∧ k ≤ T.length + 1) (fun u => T.length + 1 - (intOf u).toNat)
    case atStart => exact ⟨0, rfl, by omega⟩
    case round =>
      obtain ⟨k, rfl, hk⟩ := hrel
      by_cases hlk : k < T.length + 1
      · have k1 : (k : Int) < (T.length : Int) + 1 := by omega
        have k2 : (0 : Int) ≤ (k : Int) := by omega
        obtain ⟨x, hx⟩ : ∃ x, x = (x0 :: T)[k] := ⟨_, rfl⟩
        have y1 : w1.cell? ⟨g, k, none⟩ = some (.string x) := by rw [hx]; exact HC.out k (by simpa using hlk)
        have hxm : x ∈ hls s := by rw [HL.out, hx]; exact List.getElem_mem _
        have hxs : x.size ≤ 4096 := by have := hls_mem hxm; omega
        obtain ⟨l0, l1, l2⟩ := HLk.out x hxm
        have e0 := empty_no l0
        have C1 := has_one x 13 w1 (by omega)
        have C2 := has_one x 10 w1 (by omega)
        have e13 : ((13 : UInt8).toNat : Int) = 13 := rfl
        have e10 : ((10 : UInt8).toNat : Int) = 10 := rfl
        rw [e13, decide_eq_false (by omega)] at C1
        rw [e10, decide_eq_false (by omega)] at C2
        have C1 := Lib.hid C1
        have C2 := Lib.hid C2
        clear hx hxm l0 l1 l2 e13 e10
        go_wp2_with fail
        refine C1.out.mono ?_
        rintro e w' ⟨rfl, rfl⟩
        go_wp2_with fail
        refine C2.out.mono ?_
        rintro e w' ⟨rfl, rfl⟩
        go_wp2_with fail
        go_round
        case rel => exact ⟨k + 1, by go_num, by omega⟩
        case measure => simp [intOf]; omega
      · obtain rfl : k = T.length + 1 := by omega
        clear hlk
        go_wp2_with fail
        refine (C3.out _).mono ?_
        rintro e w2 ⟨g2, cp2, rfl, hcp2, hg2, ⟨u0, u1, u2⟩, b2, hl12⟩
        have hZ2 := HZ1.out.kept b2
        have HZ2 := Lib.hid hZ2
        obtain ⟨r0, r1, r2, f0, f1, f2⟩ := hZ2.facts
        clear b2 hZ2 C3
        go_wp2_with fail
        obtain ⟨wz, hwz, hbz, z0, z1, z2, _⟩ := HZ2.out.put (.string { data := #[] }) (.string { data := #[] }) (.slice none 0 0)
        rw [← hwz]
        exact bodyPost_ret (v := .tuple #[.agg #[.string { data := #[] }, .string { data := #[] }, .slice none 0 0], .int .i64 4]) (by simp [results, Tryd.results70, go_sem, z0, z1, z2]) rfl ⟨_, by rw [HE.out.1], by rw [HE.out.2]; exact HdV.zero _ _, hbz⟩
  · have C3 := Lib.hid fun w1 => pieces_any x0 ⟨#[32]⟩ w1 hx0 (by decide) (by decide)
    have hn := pcs_le (s := x0) (t := ⟨#[32]⟩) (by decide)
    obtain ⟨n, hnn⟩ : ∃ n, n = pcs x0 ⟨#[32]⟩ := ⟨_, rfl⟩
    rw [← hnn] at C3 h3 hn
    have p1 : ((n.length : Int) != 3) = true := by rw [bne_iff_ne]; omega
    clear hZ hl hL hf hfl h3 hnn he he2
    go_enter Tryd.func70, Tryd.ntmps70
    go_wp2_with fail
    refine C.out.mono ?_
    rintro e w1 ⟨v, rfl, ho, b1⟩
    have hZ1 := HZ.out.kept b1
    obtain ⟨A, cp, rfl⟩ := ho.form
    obtain ⟨g, rfl, hg, hgl, hcp, hcell⟩ := ho.at_ (by simp)
    have HC := Lib.hid hcell
    have HZ1 := Lib.hid hZ1
    rw [List.length_cons] at *
    have y0 : w1.cell? ⟨g, 0, none⟩ = some (.string x0) := HC.out 0 (by simp)
    clear hcell ho b1 hZ1 C hW
    go_wp2_with fail
    go_loop [5] (fun u => ∃ k : Nat, u = .int .i64 (k : Int) ∧ k ≤ T.length + 1) (fun u => T.length + 1 - (intOf u).toNat)
    case atStart => exact ⟨0, rfl, by omega⟩
    case round =>
      obtain ⟨k, rfl, hk⟩ := hrel
      by_cases hlk : k < T.length + 1
      · have k1 : (k : Int) < (T.length : Int) + 1 := by omega
        have k2 : (0 : Int) ≤ (k : Int) := by omega
        obtain ⟨x, hx⟩ : ∃ x, x = (x0 :: T)[k] := ⟨_, rfl⟩
        have y1 : w1.cell? ⟨g, k, none⟩ = some (.string x) := by rw [hx]; exact HC.out k (by simpa using hlk)
        have hxm : x ∈ hls s := by rw [HL.out, hx]; exact List.getElem_mem _
        have hxs : x.size ≤ 4096 := by have := hls_mem hxm; omega
        obtain ⟨l0, l1, l2⟩ := HLk.out x hxm
        have e0 := empty_no l0
        have C1 := has_one x 13 w1 (by omega)
        have C2 := has_one x 10 w1 (by omega)
        have e13 : ((13 : UInt8).toNat : Int) = 13 := rfl
        have e10 : ((10 : UInt8).toNat : Int) = 10 := rfl
        rw [e13, decide_eq_false (by omega)] at C1
        rw [e10, decide_eq_false (by omega)] at C2
        have C1 := Lib.hid C1
        have C2 := Lib.hid C2
        clear hx hxm l0 l1 l2 e13 e10
        go_wp2_with fail
        refine C1.out.mono ?_
        rintro e w' ⟨rfl, rfl⟩
        go_wp2_with fail
        refine C2.out.mono ?_
        rintro e w' ⟨rfl, rfl⟩
        go_wp2_with fail
        go_round
        case rel => exact ⟨k + 1, by go_num, by omega⟩
        case measure => simp [intOf]; omega
      · obtain rfl : k = T.length + 1 := by omega
        clear hlk
        go_wp2_with fail
        refine (C3.out _).mono ?_
        rintro e w2 ⟨v, rfl, ho2, b2⟩
        obtain ⟨A2, cp2, rfl⟩ := ho2.form
        have hZ2 := HZ1.out.kept b2
        have HZ2 := Lib.hid hZ2
        obtain ⟨r0, r1, r2, f0, f1, f2⟩ := hZ2.facts
        clear b2 hZ2 C3 ho2
        go_wp2_with fail
        obtain ⟨wz, hwz, hbz, z0, z1, z2, _⟩ := HZ2.out.put (.string { data := #[] }) (.string { data := #[] }) (.slice none 0 0)
        rw [← hwz]
        exact bodyPost_ret (v := .tuple #[.agg #[.string { data := #[] }, .string { data := #[] }, .slice none 0 0], .int .i64 4]) (by simp [results, Tryd.results70, go_sem, z0, z1, z2]) rfl ⟨_, by rw [HE.out.1], by rw [HE.out.2]; exact HdV.zero _ _, hbz⟩
set_option maxRecDepth 100000 in
set_option maxHeartbeats 4000000 in
theorem rh_rest (h : ¬ 4096 < s.size) (he : endOk s = true) (hl : LinesOk s) {x0 : ByteArray} {T : List ByteArray} (hL : hls s = x0 :: T) {a b : ByteArray} (hf : fls s = [a, b, http11]) : Calls Tryd.prog 70 #[.string s] w (RhRes s w) := by
  have HNo := Lib.hid fun x (hx : x ∈ T) (k : hasColon x = false) => rh_form h (colon_no hL hx k)
  have HYes : Hid ((∀ x ∈ T, hasColon x = true) → RhForm s) := fun h => ⟨hl, ⟨a, b, hf⟩, by rw [hL]; exact h⟩
  have HHd : Hid (rhHd s = ⟨a, b, T.map fdOf⟩) := by show _ = _; rw [fls_3 hf, hL]; rfl
  have HHs := Lib.hid h
  have d0 : ¬ (4096 : Int) < (s.size : Int) := by omega
  have he' : (decide (4 ≤ s.size) && ((s.extract (s.size - 4) s.size).toList == crlf2.toList)) = true := he
  rw [Bool.and_eq_true, decide_eq_true_eq] at he'
  obtain ⟨h4, he2⟩ := he'
  have d1 : ¬ (s.size : Int) < 4 := by omega
  have q0 : ((s.extract (s.size - 4) s.size).toList == [13, 10, 13, 10]) = true := by
    have e : crlf2.toList = [13, 10, 13, 10] := by rw [Lib.toList_data]; rfl
    rw [← e]; exact he2
  have q1 : ((s.extract (s.size - 4) s.size).toList != [13, 10, 13, 10]) = false := by rw [bne, q0]; rfl
  have n1 : ((s.size : Int) - 4).toNat = s.size - 4 := by omega
  have n2 : (0 : Int) ≤ (s.size : Int) - 4 := by omega
  have n3 : (s.size : Int) - 4 ≤ (s.size : Int) := by omega
  have n4 : IntKind.i64.wrap ((s.size : Int) - 4) = (s.size : Int) - 4 := IntWalk.i64_in _ (by omega)
  obtain ⟨W, hW⟩ : ∃ W, w.alloc (.cells #[.string { data := #[] }, .string { data := #[] }, .slice none 0 0] 24) = W := ⟨_, rfl⟩
  have hZ := Hz.start w
  rw [hW] at hZ
  have HZ := Lib.hid hZ
  have hwW : w.heap.size < W.heap.size := hZ.lt
  have C := pieces_any (s.extract 0 (s.size - 4)) crlf W (by rw [ByteArray.size_extract]; omega) (by decide) (by decide)
  have C : Calls Tryd.prog 66 #[.string (s.extract 0 (s.size - 4)), .string crlf] W fun e w' => ∃ v, e = .returned v ∧ OS w' W.heap.size v (x0 :: T) ∧ Below W.heap.size W w' := by rw [← hL]; exact C
  have hT : T.length ≤ 4097 := by
    have h1 : (hls s).length = T.length + 1 := by rw [hL]; rfl
    have h2 := pcs_le (s := s.extract 0 (s.size - 4)) (t := crlf) (by decide)
    rw [ByteArray.size_extract] at h2
    have h3 : (hls s).length ≤ _ := h2
    omega
  have hx0 : x0.size ≤ 1048576 := by have := hls_mem (s := s) (x := x0) (by rw [hL]; exact List.mem_cons_self); omega
  have HL := Lib.hid hL
  have HLk := Lib.hid hl.2
  have C := Lib.hid C
  have hfl : fls s = pcs x0 ⟨#[32]⟩ := by unfold fls; rw [hL]; rfl
  have hP : pcs x0 ⟨#[32]⟩ = [a, b, http11] := by rw [← hfl, hf]
  have HXs : Hid (∀ x ∈ T, x.size ≤ 4096) := fun x hx => by
    have h1 := hls_mem (s := s) (x := x) (by rw [hL]; exact List.mem_cons_of_mem _ hx)
    omega
  have hab : a.size ≤ 1048576 ∧ b.size ≤ 1048576 := by
    have := pcs_mem ⟨#[32]⟩ (by decide) x0.size x0 (Nat.le_refl _)
    have h1 := this a (by rw [hP]; simp)
    have h2 := this b (by rw [hP]; simp)
    omega
  obtain ⟨c, hc⟩ : ∃ c, c = http11 := ⟨_, rfl⟩
  rw [← hc] at hP
  have p0 : (c.toList == [72, 84, 84, 80, 47, 49, 46, 49]) = true := by rw [hc, Lib.toList_data]; rfl
  have p1 : (c.toList != [72, 84, 84, 80, 47, 49, 46, 49]) = false := by rw [bne, p0]; rfl
  have C3 := Lib.hid fun w1 => pcs_three hP (by decide) (by decide) hx0 w1
  obtain ⟨hab1, hab2⟩ := hab
  clear hZ hl hL hf hfl hP hc he he2
  go_enter Tryd.func70, Tryd.ntmps70
  go_wp2_with fail
  refine C.out.mono ?_
  rintro e w1 ⟨v, rfl, ho, b1⟩
  have hZ1 := HZ.out.kept b1
  obtain ⟨A, cp, rfl⟩ := ho.form
  obtain ⟨g, rfl, hg, hgl, hcp, hcell⟩ := ho.at_ (by simp)
  have HC := Lib.hid hcell
  have HZ1 := Lib.hid hZ1
  rw [List.length_cons] at *
  have y0 : w1.cell? ⟨g, 0, none⟩ = some (.string x0) := HC.out 0 (by simp)
  clear hcell ho b1 hZ1 C hW
  go_wp2_with fail
  go_loop [5] (fun u => ∃ k : Nat, u = .int .i64 (k : Int) ∧ k ≤ T.length + 1) (fun u => T.length + 1 - (intOf u).toNat)
  case atStart => exact ⟨0, rfl, by omega⟩
  case round =>
    obtain ⟨k, rfl, hk⟩ := hrel
    by_cases hlk : k < T.length + 1
    · have k1 : (k : Int) < (T.length : Int) + 1 := by omega
      have k2 : (0 : Int) ≤ (k : Int) := by omega
      obtain ⟨x, hx⟩ : ∃ x, x = (x0 :: T)[k] := ⟨_, rfl⟩
      have y1 : w1.cell? ⟨g, k, none⟩ = some (.string x) := by rw [hx]; exact HC.out k (by simpa using hlk)
      have hxm : x ∈ hls s := by rw [HL.out, hx]; exact List.getElem_mem _
      have hxs : x.size ≤ 4096 := by have := hls_mem hxm; omega
      obtain ⟨l0, l1, l2⟩ := HLk.out x hxm
      have e0 := empty_no l0
      have C1 := has_one x 13 w1 (by omega)
      have C2 := has_one x 10 w1 (by omega)
      have e13 : ((13 : UInt8).toNat : Int) = 13 := rfl
      have e10 : ((10 : UInt8).toNat : Int) = 10 := rfl
      rw [e13, decide_eq_false (by omega)] at C1
      rw [e10, decide_eq_false (by omega)] at C2
      have C1 := Lib.hid C1
      have C2 := Lib.hid C2
      clear hx hxm l0 l1 l2 e13 e10
      go_wp2_with fail
      refine C1.out.mono ?_
      rintro e w' ⟨rfl, rfl⟩
      go_wp2_with fail
      refine C2.out.mono ?_
      rintro e w' ⟨rfl, rfl⟩
      go_wp2_with fail
      go_round
      case rel => exact ⟨k + 1, by go_num, by omega⟩
      case measure => simp [intOf]; omega
    · obtain rfl : k = T.length + 1 := by omega
      clear hlk
      go_wp2_with fail
      refine (C3.out _).mono ?_
      rintro e w2 ⟨g2, cp2, rfl, hcp2, hg2, ⟨u0, u1, u2⟩, b2, hl12⟩
      have HZ2 := Lib.hid (HZ1.out.kept b2)
      have HC2 : Hid (∀ k (hk : k < T.length), w2.cell? ⟨g, k + 1, none⟩ = some (.string T[k])) := fun k hk => (b2.cell (p := ⟨g, k + 1, none⟩) hgl).trans (HC.out (k + 1) (by rw [List.length_cons]; omega))
      have hgl2 : g < w2.heap.size := Nat.lt_of_lt_of_le hgl b2.size
      have hww2 : w.heap.size < w2.heap.size := HZ2.out.lt
      clear b2 C3 HC
      go_wp2_with fail
      go_region
      obtain ⟨w3, hw3⟩ : ∃ w3, w3 = (w2.alloc (Obj.cells #[.string a, .string b, .slice none 0 0] 24)).drew := ⟨_, rfl⟩
      have hH3 : Hst w2 w3 w2.heap.size a b (.slice none 0 0) (.slice none 0 0) [] := by
        rw [hw3]
        exact ⟨Blk.new _ _ _, Nat.le_refl _, OP.nil _ _ _, below_drewN ((Below.refl _ _).alloc (Nat.le_refl _) _) 1⟩
      rw [← hw3]
      have H3 := Lib.hid hH3
      clear hw3 hH3 u0 u1 u2 p0 p1
      go_wp2_with fail
      go_loopw [8] (fun u wr => ∃ (k : Nat) (v : Value), u = .int .i64 (k : Int) ∧ 1 ≤ k ∧ k ≤ T.length + 1 ∧ Hst w2 wr w2.heap.size a b v v ((T.take (k - 1)).map fdOf) ∧ Hid (∀ x ∈ T.take (k - 1), hasColon x = true)) (fun u _ => T.length + 1 - (intOf u).toNat)
      case atStart => exact ⟨1, .slice none 0 0, rfl, by omega, by omega, by simpa using H3.out, fun x hx => absurd hx (by simp)⟩
      case round =>
        obtain ⟨k, v, rfl, hk1, hk, hH, HA⟩ := hrel
        have hZr := HZ2.out.kept hH.be
        by_cases hlk : k < T.length + 1
        · have k1 : (k : Int) < (T.length : Int) + 1 := by omega
          have k2 : (0 : Int) ≤ (k : Int) := by omega
          have hkt : k - 1 < T.length := by omega
          obtain ⟨x, hx⟩ : ∃ x, x = T[k - 1] := ⟨_, rfl⟩
          have y0 : wr.cell? ⟨g, k, none⟩ = some (.string x) := by
            have := HC2.out (k - 1) hkt
            rw [show k - 1 + 1 = k from by omega] at this
            rw [hx, hH.be.cell (p := ⟨g, k, none⟩) hgl2]; exact this
          have hXm : x ∈ T := by rw [hx]; exact List.getElem_mem _
          have hxs : x.size ≤ 4096 := HXs.out x hXm
          have HT : Hid (T.take k = T.take (k - 1) ++ [x]) := by
            show _ = _
            have := List.take_succ_eq_append_getElem hkt
            rw [show k - 1 + 1 = k from by omega] at this
            rw [this, hx]
          have CC := rsplit_any x ⟨#[58]⟩ wr (by omega) (by decide)
          have hsz := cutS_size x ⟨#[58]⟩
          have HNx := Lib.hid fun k => HNo.out x hXm k
          obtain ⟨c1, hc1⟩ : ∃ c1, c1 = (cutS x ⟨#[58]⟩).1 := ⟨_, rfl⟩
          obtain ⟨c2, hc2⟩ : ∃ c2, c2 = (cutS x ⟨#[58]⟩).2.1 := ⟨_, rfl⟩
          obtain ⟨c3, hc3⟩ : ∃ c3, c3 = hasColon x := ⟨_, rfl⟩
          have CC2 : Calls Tryd.prog 85 #[.string x, .string ⟨#[58]⟩] wr fun e w' => e = .returned (.tuple #[.string c1, .string c2, .bool c3]) ∧ ∃ q, w' = wr.drewN q := by rw [hc1, hc2, hc3]; exact CC
          have HFd : Hid (fdOf x = ⟨c1, str (trimL c2.data.toList)⟩) := by show _ = _; rw [hc1, hc2]; rfl
          have HC3 := Lib.hid hc3
          rw [← hc1, ← hc2] at hsz
          obtain ⟨hz1, hz2⟩ := hsz
          have CC3 := Lib.hid CC2
          have HH := Lib.hid hH
          have HZr := Lib.hid hZr
          obtain ⟨L, hLL⟩ : ∃ L, L = (T.take (k - 1)).map fdOf := ⟨_, rfl⟩
          have hLn : L.length ≤ 5000 := by rw [hLL, List.length_map, List.length_take]; omega
          have HTL : Hid ((T.take k).map fdOf = L ++ [⟨c1, str (trimL c2.data.toList)⟩]) := by show _ = _; rw [HT.out, List.map_append, ← hLL, ← HFd.out]; rfl
          rw [← hLL] at HH
          clear hx hc1 hc2 hc3 hH hZr CC CC2 hXm hLL
          go_wp2_with fail
          refine CC3.out.mono ?_
          rintro e w4 ⟨rfl, q, hq⟩
          have hH4 := HH.out.drewN q
          have hZ4 := HZr.out.drewN q
          rw [← hq] at hH4 hZ4
          clear hq HH HZr CC3 y0
          cases c3 with
          | false =>
            have HE := Lib.hid (HNx.out HC3.out.symm)
            have HZ4 := Lib.hid hZ4
            obtain ⟨r0, r1, r2, f0, f1, f2⟩ := hZ4.facts
            clear hH4 hZ4
            go_wp2_with fail
            obtain ⟨wz, hwz, hbz, z0, z1, z2, _⟩ := HZ4.out.put (.string { data := #[] }) (.string { data := #[] }) (.slice none 0 0)
            rw [← hwz]
            exact bodyPost_ret (v := .tuple #[.agg #[.string { data := #[] }, .string { data := #[] }, .slice none 0 0], .int .i64 4]) (by simp [results, Tryd.results70, go_sem, z0, z1, z2]) rfl ⟨_, by rw [HE.out.1], by rw [HE.out.2]; exact HdV.zero _ _, hbz⟩
          | true =>
            have HA2 : Hid (∀ y ∈ T.take (k + 1 - 1), hasColon y = true) := fun y hy => by
              rw [Nat.add_sub_cancel, HT.out, List.mem_append, List.mem_singleton] at hy
              rcases hy with hy | rfl
              · exact HA.out y hy
              · exact HC3.out.symm
            have CT := Lib.hid fun w' => Trim_any c2 w' (by omega)
            obtain ⟨u, hu⟩ : ∃ u, u = str (trimL c2.data.toList) := ⟨_, rfl⟩
            rw [← hu] at CT HTL
            have hHd := hH4.drew
            obtain ⟨kk0, kk1, kk, ff⟩ := hH4.facts
            have hzd : w2.heap.size < w4.heap.size := hH4.lt
            clear hZ4 hH4 hu kk0 kk1
            go_wp2_with fail
            go_region_law (first
              | (refine step_hst rfl (.tmp 101) (.tmp 106) rfl hHd (by rfl) c1 u (by rfl) (by omega) ?_; intro A1 c1' w5 hH5; obtain ⟨kk50, kk51, kk5, ff5⟩ := hH5.facts)
              | (go_simp; go_at_call 67; refine (CT.out _).mono ?_; rintro e w' ⟨rfl, rfl⟩))
            all_goals
              have HD3 := Lib.hid (hH5.set (.slice A1 (L.length + 1) c1'))
              clear hH5 hHd
              go_wp2_with fail
              go_roundw
              case rel => exact ⟨k + 1, .slice A1 (L.length + 1) c1', by go_num, by omega, by omega, by rw [Nat.add_sub_cancel, HTL.out]; exact HD3.out, HA2⟩
              case measure => simp [intOf]; omega
        · obtain rfl : k = T.length + 1 := by omega
          rw [Nat.add_sub_cancel, List.take_length] at hH HA
          clear hlk
          have HRf := Lib.hid (HYes.out HA.out)
          obtain ⟨fs, hfs⟩ : ∃ fs, fs = T.map fdOf := ⟨_, rfl⟩
          rw [← hfs] at hH
          have hfz : ∀ f ∈ fs, f.n.size ≤ 1048576 ∧ f.v.size ≤ 1048576 := fun f hf => by
            rw [hfs] at hf
            obtain ⟨x, hx, rfl⟩ := List.mem_map.1 hf
            have h1 := HXs.out x hx
            have h2 := fdOf_size x
            omega
          have HHd2 : Hid (rhHd s = ⟨a, b, fs⟩) := by show _ = _; rw [HHd.out, hfs]
          obtain ⟨A, cp, rfl⟩ := hH.ho.form
          have CK := refHead_any a b fs A cp wr.heap.size wr hab1 hab2 (hH.ho.fdR hfz) (Nat.le_refl _)
          obtain ⟨E, hE⟩ : ∃ E, E = hdE ⟨a, b, fs⟩ := ⟨_, rfl⟩
          rw [← hE] at CK
          have HEd : Hid (hdE (rhHd s) = E) := by show _ = _; rw [HHd2.out, hE]
          have CK := Lib.hid CK
          obtain ⟨kk0, kk1, kk2, ff⟩ := hH.facts
          have HH := Lib.hid hH
          have HZr := Lib.hid hZr
          clear hH hZr hfz hfs hE
          go_wp2_with fail
          refine CK.out.mono ?_
          rintro e w5 ⟨rfl, b5⟩
          have hH5 := HH.out.kept b5
          have hZ5 := HZr.out.kept b5
          obtain ⟨kk50, kk51, kk52, ff5⟩ := hH5.facts
          obtain ⟨r0, r1, r2, f0, f1, f2⟩ := hZ5.facts
          have HH5 := Lib.hid hH5
          have HZ5 := Lib.hid hZ5
          clear hH5 hZ5 b5 kk0 kk1 kk2 ff CK
          by_cases e0 : E = 0
          · have HE := Lib.hid (rh_ok HHs.out HRf.out (HEd.out.trans e0))
            have e1 : (E != 0) = false := by rw [e0]; rfl
            clear e0
            go_wp2_with fail
            obtain ⟨wz, hwz, hbz, z0, z1, z2, ho⟩ := HZ5.out.put (.string a) (.string b) (.slice A fs.length cp)
            rw [← hwz]
            refine bodyPost_ret (v := .tuple #[.agg #[.string a, .string b, .slice A fs.length cp], .int .i64 0]) (by simp [results, Tryd.results70, go_sem, z0, z1, z2]) rfl ⟨_, by rw [HE.out.1], ?_, hbz⟩
            rw [HE.out.2, HHd2.out]
            exact ⟨A, cp, rfl, (ho _ _ _ _ (by omega) HH5.out.ho).mono (by omega)⟩
          · have HE := Lib.hid (rh_bad HHs.out HRf.out (by rw [HEd.out]; exact e0))
            have e1 : (E != 0) = true := bne_iff_ne.2 e0
            clear e0
            go_wp2_with fail
            obtain ⟨wz, hwz, hbz, z0, z1, z2, _⟩ := HZ5.out.put (.string { data := #[] }) (.string { data := #[] }) (.slice none 0 0)
            rw [← hwz]
            exact bodyPost_ret (v := .tuple #[.agg #[.string { data := #[] }, .string { data := #[] }, .slice none 0 0], .int .i64 E]) (by simp [results, Tryd.results70, go_sem, z0, z1, z2]) rfl ⟨_, by rw [HE.out.1, HEd.out], by rw [HE.out.2]; exact HdV.zero _ _, hbz⟩
theorem readHead_any : Calls Tryd.prog 70 #[.string s] w (RhRes s w) := by
  by_cases h : 4096 < s.size
  · exact rh_large_ s w h
  · cases he : endOk s with
    | false => exact rh_noend s w h he
    | true =>
      by_cases hl : LinesOk s
      · have h0 : 0 < (hls s).length := pcs_pos _ _ (by decide)
        obtain ⟨x0, T, hL⟩ : ∃ x0 T, hls s = x0 :: T := by
          generalize hls s = L at h0
          match L, h0 with
          | x :: L, _ => exact ⟨x, L, rfl⟩
        by_cases hf : Fst3 s
        · obtain ⟨a, b, hab⟩ := hf
          exact rh_rest s w h he hl hL hab
        · exact rh_first s w h he hl hL hf
      · exact rh_nolines s w h he hl
end
end Go.Proofs.YtkcncgdgicffhaaDoor
