/- Walks: pipe.Print, wickref.PipeText. -/
import Derived.Test.YthnbhpchemjioaaDoorPipA
import Derived.Test.YthnbhpchemjioaaDoorClnF
namespace Go.Proofs.YthnbhpchemjioaaDoor
open Go.RowKit
set_option linter.unusedVariables false
set_option linter.unusedSimpArgs false

def wordsZ (zs : List Int) : List ByteArray := zs.map fun z => pwB z.toNat
theorem wordsZ_snoc {zs : List Int} {k : Nat} (h : k < zs.length) : wordsZ (zs.take (k + 1)) = wordsZ (zs.take k) ++ [pwB zs[k].toNat] := by
  unfold wordsZ; rw [List.take_succ_eq_append_getElem h, List.map_append]; rfl
theorem wordsZ_len (zs : List Int) : (wordsZ zs).length = zs.length := by unfold wordsZ; rw [List.length_map]
def textP (zs : List Int) : List UInt8 := if zs.length = 0 then [45] else Lib.join (dl (wordsZ zs)) [44]
theorem pw_le (k : Nat) : (pwB k).size ≤ 7 := by
  by_cases h : k < 12
  · obtain rfl | rfl | rfl | rfl | rfl | rfl | rfl | rfl | rfl | rfl | rfl | rfl : k = 0 ∨ k = 1 ∨ k = 2 ∨ k = 3 ∨ k = 4 ∨ k = 5 ∨ k = 6 ∨ k = 7 ∨ k = 8 ∨ k = 9 ∨ k = 10 ∨ k = 11 := by omega
    all_goals decide
  · have : pwL.getD k [] = [] := by unfold List.getD; rw [List.getElem?_eq_none (by show 12 ≤ k; omega)]; rfl
    unfold pwB; rw [this]; decide
theorem joinTail_le (sep : List UInt8) (n m : Nat) (hs : sep.length ≤ m) : ∀ L : List (List UInt8), (∀ x ∈ L, x.length ≤ n) → (Lib.joinTail sep L).length ≤ L.length * (n + m)
  | [], _ => by simp [Lib.joinTail]
  | x :: L, h => by
    have h1 := joinTail_le sep n m hs L fun y hy => h y (List.mem_cons_of_mem _ hy)
    have h2 := h x List.mem_cons_self
    have e1 : Lib.joinTail sep (x :: L) = sep ++ x ++ Lib.joinTail sep L := by unfold Lib.joinTail; rw [List.map_cons, List.flatten_cons]
    rw [e1]
    simp only [List.length_append, List.length_cons]
    rw [Nat.add_mul, Nat.one_mul]
    generalize L.length * (n + m) = P at h1 ⊢
    omega
theorem join_le (sep : List UInt8) (n m : Nat) (hs : sep.length ≤ m) (L : List (List UInt8)) (h : ∀ x ∈ L, x.length ≤ n) : (Lib.join L sep).length ≤ L.length * (n + m) := by
  cases L with
  | nil => simp [Lib.join]
  | cons x L =>
    have h1 := joinTail_le sep n m hs L fun y hy => h y (List.mem_cons_of_mem _ hy)
    have h2 := h x List.mem_cons_self
    rw [Lib.join_cons]
    simp only [List.length_append, List.length_cons]
    rw [Nat.add_mul, Nat.one_mul]
    generalize L.length * (n + m) = P at h1 ⊢
    omega
theorem wordsZ_join (zs : List Int) (h : zs.length ≤ 8) : (Lib.join (dl (wordsZ zs)) [44]).length ≤ 140737488355320 := by
  have := join_le [44] 7 1 (by decide) (dl (wordsZ zs)) (fun x hx => by
    obtain ⟨b, hb, rfl⟩ := List.mem_map.1 hx
    obtain ⟨z, _, rfl⟩ := List.mem_map.1 hb
    rw [lst_len]; exact pw_le _)
  have h2 : (dl (wordsZ zs)).length = zs.length := by unfold dl; rw [List.length_map, wordsZ_len]
  omega
section
variable (zs : List Int) (A : Option Addr) (c : Nat) (w : World)
set_option maxHeartbeats 2000000 in
theorem pipePrint_bad (h : IR w A zs) (hl : zs.length ≤ 9223372036854775807) (h0 : ¬ pipE zs = 0) :
    Calls Tryd.prog 26 #[.slice A zs.length c] w fun e w' => e = .returned (.tuple #[.string ByteArray.empty, .int .i64 (pipE zs)]) ∧ Below w.heap.size w w' := by
  have C := pipeCheck_any zs A c w h hl
  obtain ⟨E, hE⟩ : ∃ E, E = pipE zs := ⟨_, rfl⟩
  rw [← hE] at h0 C ⊢
  have e0 : (E != 0) = true := bne_iff_ne.2 h0
  have C := Lib.hid C
  clear h h0 hE
  go_enter Tryd.func26, Tryd.ntmps26
  go_wp2_with fail
  refine C.out.mono ?_
  rintro e w1 ⟨rfl, rfl⟩
  go_wp2_with fail
  go_ret2
  exact ⟨rfl, Below.refl _ _⟩
theorem pipE_all {zs : List Int} (h : pipE zs = 0) : zs.length ≤ 8 ∧ ∀ k (hk : k < zs.length), ∃ n : Nat, zs[k] = (n : Int) ∧ 1 ≤ n ∧ n ≤ 11 := by
  unfold pipE at h
  by_cases h1 : 8 < zs.length
  · rw [if_pos h1] at h; cases h
  · rw [if_neg h1] at h
    by_cases h2 : zs.all okP = true
    · refine ⟨by omega, fun k hk => ?_⟩
      rw [List.all_eq_true] at h2
      have := of_decide_eq_true (h2 zs[k] (List.getElem_mem hk))
      exact ⟨zs[k].toNat, by omega, by omega, by omega⟩
    · rw [if_neg h2] at h; cases h
set_option maxHeartbeats 2000000 in
theorem pipePrint_ok (h : IR w A zs) (hl : zs.length ≤ 9223372036854775807) (h0 : pipE zs = 0) :
    Calls Tryd.prog 26 #[.slice A zs.length c] w fun e w' => e = .returned (.tuple #[.string (str (textP zs)), .int .i64 0]) ∧ Below w.heap.size w w' := by
  have C := pipeCheck_any zs A c w h hl
  rw [h0] at C
  have C := Lib.hid C
  obtain ⟨h8, hA⟩ := pipE_all h0
  have HA := Lib.hid hA
  have HR := Lib.hid h
  clear h0 h hA
  by_cases hz : zs.length = 0
  · have e1 : ((zs.length : Int) == 0) = true := by rw [beq_iff_eq]; omega
    have HT : Hid (textP zs = [45]) := by show _ = _; unfold textP; rw [if_pos hz]
    clear hz
    go_enter Tryd.func26, Tryd.ntmps26
    go_wp2_with fail
    refine C.out.mono ?_
    rintro e w1 ⟨rfl, rfl⟩
    go_wp2_with fail
    go_ret2
    exact ⟨by rw [HT.out]; rfl, Below.refl _ _⟩
  · have e1 : ((zs.length : Int) == 0) = false := by rw [beq_eq_false_iff_ne]; omega
    have HT : Hid (textP zs = Lib.join (dl (wordsZ zs)) [44]) := by show _ = _; unfold textP; rw [if_neg hz]
    have hz1 : 0 < zs.length := by omega
    clear hz
    go_enter Tryd.func26, Tryd.ntmps26
    go_wp2_with fail
    refine C.out.mono ?_
    rintro e w1 ⟨rfl, rfl⟩
    go_wp2_with fail
    go_loopw [5, 18] (fun v u wr => ∃ k : Nat, u = .int .i64 (k : Int) ∧ k ≤ zs.length ∧ OS wr w.heap.size v (wordsZ (zs.take k)) ∧ Below w.heap.size w wr) (fun _ u _ => zs.length - (intOf u).toNat)
    case atStart => exact ⟨0, rfl, by omega, OS.nil _ _, Below.refl _ _⟩
    case round =>
      obtain ⟨k, rfl, hk, ho, hb⟩ := hrel
      have hsz := hb.size
      have HO := Lib.hid ho
      have HB := Lib.hid hb
      by_cases hlk : k < zs.length
      · have k1 : (k : Int) < (zs.length : Int) := by omega
        have k2 : (0 : Int) ≤ (k : Int) := by omega
        obtain ⟨ad, rfl, hab, y0⟩ := (HR.out.below hb).at_ hlk
        obtain ⟨n, hn, n1, n2⟩ := HA.out k hlk
        rw [hn] at y0
        have HW : Hid (wordsZ (zs.take (k + 1)) = wordsZ (zs.take k) ++ [pwB n]) := by show _ = _; rw [wordsZ_snoc hlk, hn]; rfl
        have hwl : (wordsZ (zs.take k)).length ≤ 8 := by rw [wordsZ_len, List.length_take]; omega
        have CW := Lib.hid fun w' => word_any n (by omega) w'
        clear ho hb hn
        go_wp2_with fail
        refine (CW.out _).mono ?_
        rintro e w2 ⟨rfl, rfl⟩
        go_wp2_with (at_builtin; refine wpL_appS rfl (.tmp 22) (.tmp 25) rfl HO.out rfl (pwB n) rfl (by omega) hsz ?_; intro v' w2 ho2 hg2 hb2; have HO2 := Lib.hid ho2; have HB2 := Lib.hid hb2; clear ho2 hg2 hb2)
        go_roundw
        case rel => exact ⟨k + 1, by go_num, by omega, by rw [HW.out]; exact HO2.out, HB.out.trans HB2.out⟩
        case measure => simp [intOf]; omega
      · obtain rfl : k = zs.length := by omega
        rw [List.take_length] at HO
        obtain ⟨A', c', rfl⟩ := HO.out.form
        rw [wordsZ_len] at HO ⊢
        have CJ := jn_any A' c' (wordsZ zs) ⟨#[44]⟩ wr w.heap.size (by rw [wordsZ_len]; exact HO.out) (by rw [wordsZ_len]; omega) (wordsZ_join zs h8)
        rw [wordsZ_len] at CJ
        have CJ := Lib.hid CJ
        clear ho hb hlk
        go_wp2_with fail
        refine CJ.out.mono ?_
        rintro e w2 ⟨rfl, b2⟩
        have HB2 := Lib.hid (HB.out.trans (b2.mono hsz))
        clear b2
        go_wp2_with fail
        go_ret2
        exact ⟨by rw [HT.out]; rfl, HB2.out⟩
/-- the table of words -/
def PW (w : World) : Prop := 0 < w.heap.size ∧ ∀ k, k < 12 → w.cell? ⟨0, k, none⟩ = some (.string (pwB k))
theorem PW.below {w w' : World} (h : PW w) (hb : Below w.heap.size w w') : PW w' := ⟨Nat.lt_of_lt_of_le h.1 hb.size, fun k hk => (hb.cell (p := ⟨0, k, none⟩) h.1).trans (h.2 k hk)⟩
set_option maxHeartbeats 2000000 in
theorem pipeText_any (h : IR w A zs) (hP : PW w) (h0 : pipE zs = 0) :
    Calls Tryd.prog 25 #[.slice A zs.length c] w fun e w' => e = .returned (.string (str (textP zs))) ∧ Below w.heap.size w w' := by
  obtain ⟨h8, hA⟩ := pipE_all h0
  have HA := Lib.hid hA
  have HR := Lib.hid h
  have HP := Lib.hid hP
  clear h0 h hA hP
  by_cases hz : zs.length = 0
  · have e1 : ((zs.length : Int) == 0) = true := by rw [beq_iff_eq]; omega
    have HT : Hid (textP zs = [45]) := by show _ = _; unfold textP; rw [if_pos hz]
    clear hz
    go_enter Tryd.func25, Tryd.ntmps25
    go_wp2_with fail
    go_ret
    exact ⟨by rw [HT.out]; rfl, Below.refl _ _⟩
  · have e1 : ((zs.length : Int) == 0) = false := by rw [beq_eq_false_iff_ne]; omega
    have HT : Hid (textP zs = Lib.join (dl (wordsZ zs)) [44]) := by show _ = _; unfold textP; rw [if_neg hz]
    have hz1 : 0 < zs.length := by omega
    clear hz
    go_enter Tryd.func25, Tryd.ntmps25
    go_wp2_with fail
    go_loopw [3, 4] (fun v u wr => ∃ k : Nat, u = .int .i64 (k : Int) ∧ k ≤ zs.length ∧ OS wr w.heap.size v (wordsZ (zs.take k)) ∧ Below w.heap.size w wr) (fun _ u _ => zs.length - (intOf u).toNat)
    case atStart => exact ⟨0, rfl, by omega, OS.nil _ _, Below.refl _ _⟩
    case round =>
      obtain ⟨k, rfl, hk, ho, hb⟩ := hrel
      have hsz := hb.size
      have HO := Lib.hid ho
      have HB := Lib.hid hb
      by_cases hlk : k < zs.length
      · have k1 : (k : Int) < (zs.length : Int) := by omega
        have k2 : (0 : Int) ≤ (k : Int) := by omega
        obtain ⟨ad, rfl, hab, y0⟩ := (HR.out.below hb).at_ hlk
        obtain ⟨n, hn, n1, n2⟩ := HA.out k hlk
        rw [hn] at y0
        have n3 : (n : Int) < 12 := by omega
        have n4 : (0 : Int) ≤ (n : Int) := by omega
        have y1 := (HP.out.below hb).2 n (by omega)
        have HW : Hid (wordsZ (zs.take (k + 1)) = wordsZ (zs.take k) ++ [pwB n]) := by show _ = _; rw [wordsZ_snoc hlk, hn]; rfl
        have hwl : (wordsZ (zs.take k)).length ≤ 8 := by rw [wordsZ_len, List.length_take]; omega
        clear ho hb hn
        go_wp2_with (at_builtin; refine wpL_appS rfl (.tmp 14) (.tmp 21) rfl HO.out rfl (pwB n) rfl (by omega) hsz ?_; intro v' w2 ho2 hg2 hb2; have HO2 := Lib.hid ho2; have HB2 := Lib.hid hb2; clear ho2 hg2 hb2)
        go_roundw
        case rel => exact ⟨k + 1, by go_num, by omega, by rw [HW.out]; exact HO2.out, HB.out.trans HB2.out⟩
        case measure => simp [intOf]; omega
      · obtain rfl : k = zs.length := by omega
        rw [List.take_length] at HO
        obtain ⟨A', c', rfl⟩ := HO.out.form
        rw [wordsZ_len] at HO ⊢
        have CJ := Joined_any A' c' (wordsZ zs) ⟨#[44]⟩ wr w.heap.size (by rw [wordsZ_len]; exact HO.out) (wordsZ_join zs h8)
        rw [wordsZ_len] at CJ
        have CJ := Lib.hid CJ
        clear ho hb hlk
        go_wp2_with fail
        refine CJ.out.mono ?_
        rintro e w2 ⟨rfl, rfl⟩
        go_wp2_with fail
        go_ret
        exact ⟨by rw [HT.out]; rfl, HB.out⟩
end
end Go.Proofs.YthnbhpchemjioaaDoor
