/- Walks: octet.size, octet.Utf8. -/
import Derived.Test.YtahcgajipnkojaaTxtC
import Derived.Test.YtahcgajipnkojaaMB
namespace Go.Proofs.Ytahcgajipnkojaa
open Go.RowKit
set_option linter.unusedVariables false
set_option linter.unusedSimpArgs false

theorem cons0 {t : ByteArray} (h : 0 < t.size) : t.data.toList = t[0] :: t.data.toList.drop 1 := by
  have := drop_cons t 0 h; rwa [List.drop_zero] at this

def contB (b : UInt8) : Bool := 128 ≤ b.toNat && b.toNat ≤ 191
/-- of a first byte: how long its sequence is, and what the second byte may be -/
def u8lead (b : Nat) : Nat × Nat × Nat :=
  if 194 ≤ b ∧ b ≤ 223 then (2, 128, 191) else if 224 ≤ b ∧ b ≤ 239 then (3, if b = 224 then 160 else 128, if b = 237 then 159 else 191)
  else if 240 ≤ b ∧ b ≤ 244 then (4, if b = 240 then 144 else 128, if b = 244 then 143 else 191) else (0, 0, 0)
/-- the size of the sequence at the front; 0: none -/
def u8size (l : List UInt8) : Nat :=
  match l with
  | [] => 0
  | b :: r => if b.toNat < 128 then 1 else if (u8lead b.toNat).1 = 0 then 0 else if r.length + 1 < (u8lead b.toNat).1 then 0 else
    match r with
    | [] => 0
    | c :: r2 => if c.toNat < (u8lead b.toNat).2.1 ∨ (u8lead b.toNat).2.2 < c.toNat then 0 else if (r2.take ((u8lead b.toNat).1 - 2)).all contB then (u8lead b.toNat).1 else 0
theorem u8_ascii {t : ByteArray} (h : 0 < t.size) (hb : t[0].toNat < 128) : u8size t.data.toList = 1 := by
  rw [cons0 h]; unfold u8size; simp only [if_pos hb]
theorem u8_no {t : ByteArray} (h : 0 < t.size) (hb : ¬ t[0].toNat < 128) (hl : (u8lead t[0].toNat).1 = 0) : u8size t.data.toList = 0 := by
  rw [cons0 h]; unfold u8size; simp only [if_neg hb, if_pos hl]
theorem u8_short {t : ByteArray} (h : 0 < t.size) (hb : ¬ t[0].toNat < 128) {n lo hi : Nat} (hl : u8lead t[0].toNat = (n, lo, hi)) (hn : ¬ n = 0) (hz : t.size < n) : u8size t.data.toList = 0 := by
  rw [cons0 h]; unfold u8size
  simp only [if_neg hb, hl, if_neg hn]
  rw [if_pos (by rw [List.length_drop, lst_len]; omega)]
theorem u8_long {t : ByteArray} (h : 1 < t.size) (hb : ¬ t[0].toNat < 128) {n lo hi : Nat} (hl : u8lead t[0].toNat = (n, lo, hi)) (hn : 2 ≤ n) (hz : n ≤ t.size) :
    u8size t.data.toList = if t[1].toNat < lo ∨ hi < t[1].toNat then 0 else if ((t.data.toList.take n).drop 2).all contB then n else 0 := by
  have e : t.data.toList = t[0] :: t[1] :: t.data.toList.drop 2 := (cons0 (by omega)).trans (by rw [drop_cons t 1 h])
  rw [e]; unfold u8size
  simp only [if_neg hb, hl]
  rw [if_neg (by omega), if_neg (by rw [List.length_cons, List.length_drop, lst_len]; omega)]
  obtain ⟨m, rfl⟩ : ∃ m, n = m + 2 := ⟨n - 2, by omega⟩
  simp only [List.take_succ_cons, List.drop_succ_cons, List.drop_zero, Nat.add_sub_cancel]
theorem u8size_le (l : List UInt8) : u8size l ≤ l.length ∧ u8size l ≤ 4 := by
  unfold u8size
  match l with
  | [] => simp
  | b :: r =>
    simp only
    have h4 : (u8lead b.toNat).1 ≤ 4 := by
      unfold u8lead
      by_cases a1 : 194 ≤ b.toNat ∧ b.toNat ≤ 223
      · rw [if_pos a1]; decide
      · rw [if_neg a1]
        by_cases a2 : 224 ≤ b.toNat ∧ b.toNat ≤ 239
        · rw [if_pos a2]; exact (by decide : 3 ≤ 4)
        · rw [if_neg a2]
          by_cases a3 : 240 ≤ b.toNat ∧ b.toNat ≤ 244
          · rw [if_pos a3]; exact (by decide : 4 ≤ 4)
          · rw [if_neg a3]; decide
    split
    · simp
    · split
      · simp
      · split
        · simp
        · match r with
          | [] => simp
          | c :: r2 =>
            simp only
            split
            · simp
            · split
              · simp only [List.length_cons] at *; omega
              · simp
theorem all_hit {M : List UInt8} {k : Nat} (h : k < M.length) (hc : contB M[k] = false) : M.all contB = false := by
  rw [List.all_eq_false]; exact ⟨M[k], List.getElem_mem _, by rw [hc]; decide⟩
theorem all_step {M : List UInt8} {k : Nat} (h : k < M.length) (h1 : (M.take k).all contB = true) (hc : contB M[k] = true) : (M.take (k + 1)).all contB = true := by
  rw [List.take_succ_eq_append_getElem h, List.all_append, h1]; simp [hc]

set_option maxHeartbeats 1000000 in
set_option maxRecDepth 100000 in
theorem size_c2 (t : ByteArray) (w : World) (hs : t.size ≤ 140737488355328) (h0 : 0 < t.size) (hc : (194 : Int) ≤ (t[0].toNat : Int) ∧ (t[0].toNat : Int) ≤ 223) :
    Calls Try.prog 71 #[.string t] w fun e w' => e = .returned (.int .i64 (u8size t.data.toList : Int)) ∧ Below w.heap.size w w' := by
  have hlead : u8lead t[0].toNat = (2, 128, 191) ∧ ¬ t[0].toNat < 128 := by
    try simp only [beq_iff_eq, beq_eq_false_iff_ne, ne_eq] at hc
    unfold u8lead
    constructor
    · repeat' split
      all_goals first | rfl | (exfalso; omega)
    · omega
  obtain ⟨hl, hb⟩ := hlead
  have i0 : (0 : Int) < t.size := by omega
  by_cases hz : 2 ≤ t.size
  · have HU := Lib.hid (u8_long (by omega) hb hl (by omega) hz)
    have i1 : (1 : Int) < t.size := by omega
    have hz1 : 1 < t.size := by omega
    have iz : (2 : Int) ≤ t.size := by omega
    obtain ⟨c1, c2⟩ := byte_lt t[1]
    by_cases hx : t[1].toNat < 128 ∨ 191 < t[1].toNat
    · have HU2 := Lib.hid (HU.out.trans (if_pos hx))
      have hx2 : (t[1].toNat : Int) < 128 ∨ ((128 : Int) ≤ (t[1].toNat : Int) ∧ (191 : Int) < (t[1].toNat : Int)) := by omega
      clear hl hb hx
      rcases hx2 with hx2 | hx2
      all_goals
        go_enter Try.func71, Try.ntmps71
        go_wp2
      all_goals go_ret
      all_goals exact ⟨ret_int (by rw [HU2.out]; rfl), Below.refl _ _⟩
    · have HU2 := Lib.hid (HU.out.trans (if_neg hx))
      have hx2 : (128 : Int) ≤ (t[1].toNat : Int) ∧ (t[1].toNat : Int) ≤ 191 := by omega
      obtain ⟨M, hM⟩ : ∃ M, M = (t.data.toList.take 2).drop 2 := ⟨_, rfl⟩
      have hML : M.length = 0 := by rw [hM, List.length_drop, List.length_take, lst_len]; omega
      obtain ⟨c, w1, hconv, hmb, hbl, hwz⟩ := mb_make (t.extract 2 2) w
      have hsz := size_ext t 2 2 (by omega) hz
      rw [lst_ext, ← hM] at hmb
      rw [← hM] at HU2
      rw [hsz] at hconv
      rw [show t.extract 2 2 = ByteArray.empty by simp] at hconv
      have HMB := Lib.hid hmb
      have HML := Lib.hid hML
      have HB := Lib.hid hbl
      clear hl hb hx hM hmb hML hbl hsz
      go_enter Try.func71, Try.ntmps71
      go_wp2
      go_loop [64] (fun i => ∃ k : Nat, k ≤ 0 ∧ i = .int .i64 k ∧ Hid ((M.take k).all contB = true)) (fun i => 0 - (intOf i).toNat)
      case atStart => exact ⟨0, by omega, rfl, rfl⟩
      case round =>
        obtain ⟨k, hk, rfl, HK⟩ := hrel
        by_cases hlt : k < 0
        · have hkl : k < M.length := by rw [HML.out]; exact hlt
          have hcell := (HMB.out k hkl).1
          unfold bv at hcell
          have hj : (k : Int) < 2 - 2 := by omega
          obtain ⟨d1, d2⟩ := byte_lt M[k]
          by_cases hcb : contB M[k] = true
          · have HN := Lib.hid (all_step hkl HK.out hcb)
            have hr : (128 : Int) ≤ (M[k].toNat : Int) ∧ (M[k].toNat : Int) ≤ 191 := by simp [contB] at hcb; omega
            clear hcb
            go_wp2
            all_goals (go_round; (case rel => exact ⟨k + 1, by omega, by go_num, HN⟩); (case measure => simp [intOf]; omega))
          · have HN := Lib.hid (all_hit hkl (by rw [Bool.not_eq_true] at hcb; exact hcb))
            have hr : (M[k].toNat : Int) < 128 ∨ ((128 : Int) ≤ (M[k].toNat : Int) ∧ (191 : Int) < (M[k].toNat : Int)) := by simp [contB] at hcb; omega
            clear hcb
            rcases hr with hr | hr
            all_goals go_wp2
            all_goals go_ret
            all_goals exact ⟨ret_int (by rw [HU2.out, if_neg (by rw [HN.out]; decide)]; rfl), HB.out⟩
        · have HN := Lib.hid (show M.all contB = true by have := HK.out; rwa [List.take_of_length_le (by rw [HML.out]; omega)] at this)
          go_wp2
          go_ret
          exact ⟨ret_int (by rw [HU2.out, if_pos HN.out]; rfl), HB.out⟩
  · have HU := Lib.hid (u8_short h0 hb hl (by omega) (by omega))
    have iz : (t.size : Int) < 2 := by omega
    clear hl hb
    go_enter Try.func71, Try.ntmps71
    go_wp2
    go_ret
    exact ⟨ret_int (by rw [HU.out]; rfl), Below.refl _ _⟩

set_option maxHeartbeats 1000000 in
set_option maxRecDepth 100000 in
theorem size_c3a (t : ByteArray) (w : World) (hs : t.size ≤ 140737488355328) (h0 : 0 < t.size) (hc : ((t[0].toNat : Int) == 224) = true ∧ (224 : Int) ≤ (t[0].toNat : Int) ∧ (t[0].toNat : Int) ≤ 224) :
    Calls Try.prog 71 #[.string t] w fun e w' => e = .returned (.int .i64 (u8size t.data.toList : Int)) ∧ Below w.heap.size w w' := by
  have hlead : u8lead t[0].toNat = (3, 160, 191) ∧ ¬ t[0].toNat < 128 := by
    try simp only [beq_iff_eq, beq_eq_false_iff_ne, ne_eq] at hc
    unfold u8lead
    constructor
    · repeat' split
      all_goals first | rfl | (exfalso; omega)
    · omega
  obtain ⟨hl, hb⟩ := hlead
  have i0 : (0 : Int) < t.size := by omega
  by_cases hz : 3 ≤ t.size
  · have HU := Lib.hid (u8_long (by omega) hb hl (by omega) hz)
    have i1 : (1 : Int) < t.size := by omega
    have hz1 : 1 < t.size := by omega
    have iz : (3 : Int) ≤ t.size := by omega
    obtain ⟨c1, c2⟩ := byte_lt t[1]
    by_cases hx : t[1].toNat < 160 ∨ 191 < t[1].toNat
    · have HU2 := Lib.hid (HU.out.trans (if_pos hx))
      have hx2 : (t[1].toNat : Int) < 160 ∨ ((160 : Int) ≤ (t[1].toNat : Int) ∧ (191 : Int) < (t[1].toNat : Int)) := by omega
      clear hl hb hx
      rcases hx2 with hx2 | hx2
      all_goals
        go_enter Try.func71, Try.ntmps71
        go_wp2
      all_goals go_ret
      all_goals exact ⟨ret_int (by rw [HU2.out]; rfl), Below.refl _ _⟩
    · have HU2 := Lib.hid (HU.out.trans (if_neg hx))
      have hx2 : (160 : Int) ≤ (t[1].toNat : Int) ∧ (t[1].toNat : Int) ≤ 191 := by omega
      obtain ⟨M, hM⟩ : ∃ M, M = (t.data.toList.take 3).drop 2 := ⟨_, rfl⟩
      have hML : M.length = 1 := by rw [hM, List.length_drop, List.length_take, lst_len]; omega
      obtain ⟨c, w1, hconv, hmb, hbl, hwz⟩ := mb_make (t.extract 2 3) w
      have hsz := size_ext t 2 3 (by omega) hz
      rw [lst_ext, ← hM] at hmb
      rw [← hM] at HU2
      rw [hsz] at hconv
      simp only [Nat.reduceSub] at hconv
      have HMB := Lib.hid hmb
      have HML := Lib.hid hML
      have HB := Lib.hid hbl
      clear hl hb hx hM hmb hML hbl hsz
      go_enter Try.func71, Try.ntmps71
      go_wp2
      go_loop [64] (fun i => ∃ k : Nat, k ≤ 1 ∧ i = .int .i64 k ∧ Hid ((M.take k).all contB = true)) (fun i => 1 - (intOf i).toNat)
      case atStart => exact ⟨0, by omega, rfl, rfl⟩
      case round =>
        obtain ⟨k, hk, rfl, HK⟩ := hrel
        by_cases hlt : k < 1
        · have hkl : k < M.length := by rw [HML.out]; exact hlt
          have hcell := (HMB.out k hkl).1
          unfold bv at hcell
          have hj : (k : Int) < 3 - 2 := by omega
          obtain ⟨d1, d2⟩ := byte_lt M[k]
          by_cases hcb : contB M[k] = true
          · have HN := Lib.hid (all_step hkl HK.out hcb)
            have hr : (128 : Int) ≤ (M[k].toNat : Int) ∧ (M[k].toNat : Int) ≤ 191 := by simp [contB] at hcb; omega
            clear hcb
            go_wp2
            all_goals (go_round; (case rel => exact ⟨k + 1, by omega, by go_num, HN⟩); (case measure => simp [intOf]; omega))
          · have HN := Lib.hid (all_hit hkl (by rw [Bool.not_eq_true] at hcb; exact hcb))
            have hr : (M[k].toNat : Int) < 128 ∨ ((128 : Int) ≤ (M[k].toNat : Int) ∧ (191 : Int) < (M[k].toNat : Int)) := by simp [contB] at hcb; omega
            clear hcb
            rcases hr with hr | hr
            all_goals go_wp2
            all_goals go_ret
            all_goals exact ⟨ret_int (by rw [HU2.out, if_neg (by rw [HN.out]; decide)]; rfl), HB.out⟩
        · have HN := Lib.hid (show M.all contB = true by have := HK.out; rwa [List.take_of_length_le (by rw [HML.out]; omega)] at this)
          go_wp2
          go_ret
          exact ⟨ret_int (by rw [HU2.out, if_pos HN.out]; rfl), HB.out⟩
  · have HU := Lib.hid (u8_short h0 hb hl (by omega) (by omega))
    have iz : (t.size : Int) < 3 := by omega
    clear hl hb
    go_enter Try.func71, Try.ntmps71
    go_wp2
    go_ret
    exact ⟨ret_int (by rw [HU.out]; rfl), Below.refl _ _⟩

set_option maxHeartbeats 1000000 in
set_option maxRecDepth 100000 in
theorem size_c3b (t : ByteArray) (w : World) (hs : t.size ≤ 140737488355328) (h0 : 0 < t.size) (hc : ((t[0].toNat : Int) == 224) = false ∧ ((t[0].toNat : Int) == 237) = true ∧ (237 : Int) ≤ (t[0].toNat : Int) ∧ (t[0].toNat : Int) ≤ 237) :
    Calls Try.prog 71 #[.string t] w fun e w' => e = .returned (.int .i64 (u8size t.data.toList : Int)) ∧ Below w.heap.size w w' := by
  have hlead : u8lead t[0].toNat = (3, 128, 159) ∧ ¬ t[0].toNat < 128 := by
    try simp only [beq_iff_eq, beq_eq_false_iff_ne, ne_eq] at hc
    unfold u8lead
    constructor
    · repeat' split
      all_goals first | rfl | (exfalso; omega)
    · omega
  obtain ⟨hl, hb⟩ := hlead
  have i0 : (0 : Int) < t.size := by omega
  by_cases hz : 3 ≤ t.size
  · have HU := Lib.hid (u8_long (by omega) hb hl (by omega) hz)
    have i1 : (1 : Int) < t.size := by omega
    have hz1 : 1 < t.size := by omega
    have iz : (3 : Int) ≤ t.size := by omega
    obtain ⟨c1, c2⟩ := byte_lt t[1]
    by_cases hx : t[1].toNat < 128 ∨ 159 < t[1].toNat
    · have HU2 := Lib.hid (HU.out.trans (if_pos hx))
      have hx2 : (t[1].toNat : Int) < 128 ∨ ((128 : Int) ≤ (t[1].toNat : Int) ∧ (159 : Int) < (t[1].toNat : Int)) := by omega
      clear hl hb hx
      rcases hx2 with hx2 | hx2
      all_goals
        go_enter Try.func71, Try.ntmps71
        go_wp2
      all_goals go_ret
      all_goals exact ⟨ret_int (by rw [HU2.out]; rfl), Below.refl _ _⟩
    · have HU2 := Lib.hid (HU.out.trans (if_neg hx))
      have hx2 : (128 : Int) ≤ (t[1].toNat : Int) ∧ (t[1].toNat : Int) ≤ 159 := by omega
      obtain ⟨M, hM⟩ : ∃ M, M = (t.data.toList.take 3).drop 2 := ⟨_, rfl⟩
      have hML : M.length = 1 := by rw [hM, List.length_drop, List.length_take, lst_len]; omega
      obtain ⟨c, w1, hconv, hmb, hbl, hwz⟩ := mb_make (t.extract 2 3) w
      have hsz := size_ext t 2 3 (by omega) hz
      rw [lst_ext, ← hM] at hmb
      rw [← hM] at HU2
      rw [hsz] at hconv
      simp only [Nat.reduceSub] at hconv
      have HMB := Lib.hid hmb
      have HML := Lib.hid hML
      have HB := Lib.hid hbl
      clear hl hb hx hM hmb hML hbl hsz
      go_enter Try.func71, Try.ntmps71
      go_wp2
      go_loop [64] (fun i => ∃ k : Nat, k ≤ 1 ∧ i = .int .i64 k ∧ Hid ((M.take k).all contB = true)) (fun i => 1 - (intOf i).toNat)
      case atStart => exact ⟨0, by omega, rfl, rfl⟩
      case round =>
        obtain ⟨k, hk, rfl, HK⟩ := hrel
        by_cases hlt : k < 1
        · have hkl : k < M.length := by rw [HML.out]; exact hlt
          have hcell := (HMB.out k hkl).1
          unfold bv at hcell
          have hj : (k : Int) < 3 - 2 := by omega
          obtain ⟨d1, d2⟩ := byte_lt M[k]
          by_cases hcb : contB M[k] = true
          · have HN := Lib.hid (all_step hkl HK.out hcb)
            have hr : (128 : Int) ≤ (M[k].toNat : Int) ∧ (M[k].toNat : Int) ≤ 191 := by simp [contB] at hcb; omega
            clear hcb
            go_wp2
            all_goals (go_round; (case rel => exact ⟨k + 1, by omega, by go_num, HN⟩); (case measure => simp [intOf]; omega))
          · have HN := Lib.hid (all_hit hkl (by rw [Bool.not_eq_true] at hcb; exact hcb))
            have hr : (M[k].toNat : Int) < 128 ∨ ((128 : Int) ≤ (M[k].toNat : Int) ∧ (191 : Int) < (M[k].toNat : Int)) := by simp [contB] at hcb; omega
            clear hcb
            rcases hr with hr | hr
            all_goals go_wp2
            all_goals go_ret
            all_goals exact ⟨ret_int (by rw [HU2.out, if_neg (by rw [HN.out]; decide)]; rfl), HB.out⟩
        · have HN := Lib.hid (show M.all contB = true by have := HK.out; rwa [List.take_of_length_le (by rw [HML.out]; omega)] at this)
          go_wp2
          go_ret
          exact ⟨ret_int (by rw [HU2.out, if_pos HN.out]; rfl), HB.out⟩
  · have HU := Lib.hid (u8_short h0 hb hl (by omega) (by omega))
    have iz : (t.size : Int) < 3 := by omega
    clear hl hb
    go_enter Try.func71, Try.ntmps71
    go_wp2
    go_ret
    exact ⟨ret_int (by rw [HU.out]; rfl), Below.refl _ _⟩

set_option maxHeartbeats 1000000 in
set_option maxRecDepth 100000 in
theorem size_c3c (t : ByteArray) (w : World) (hs : t.size ≤ 140737488355328) (h0 : 0 < t.size) (hc : ((t[0].toNat : Int) == 224) = false ∧ ((t[0].toNat : Int) == 237) = false ∧ (224 : Int) ≤ (t[0].toNat : Int) ∧ (t[0].toNat : Int) ≤ 239) :
    Calls Try.prog 71 #[.string t] w fun e w' => e = .returned (.int .i64 (u8size t.data.toList : Int)) ∧ Below w.heap.size w w' := by
  have hlead : u8lead t[0].toNat = (3, 128, 191) ∧ ¬ t[0].toNat < 128 := by
    try simp only [beq_iff_eq, beq_eq_false_iff_ne, ne_eq] at hc
    unfold u8lead
    constructor
    · repeat' split
      all_goals first | rfl | (exfalso; omega)
    · omega
  obtain ⟨hl, hb⟩ := hlead
  have i0 : (0 : Int) < t.size := by omega
  by_cases hz : 3 ≤ t.size
  · have HU := Lib.hid (u8_long (by omega) hb hl (by omega) hz)
    have i1 : (1 : Int) < t.size := by omega
    have hz1 : 1 < t.size := by omega
    have iz : (3 : Int) ≤ t.size := by omega
    obtain ⟨c1, c2⟩ := byte_lt t[1]
    by_cases hx : t[1].toNat < 128 ∨ 191 < t[1].toNat
    · have HU2 := Lib.hid (HU.out.trans (if_pos hx))
      have hx2 : (t[1].toNat : Int) < 128 ∨ ((128 : Int) ≤ (t[1].toNat : Int) ∧ (191 : Int) < (t[1].toNat : Int)) := by omega
      clear hl hb hx
      rcases hx2 with hx2 | hx2
      all_goals
        go_enter Try.func71, Try.ntmps71
        go_wp2
      all_goals go_ret
      all_goals exact ⟨ret_int (by rw [HU2.out]; rfl), Below.refl _ _⟩
    · have HU2 := Lib.hid (HU.out.trans (if_neg hx))
      have hx2 : (128 : Int) ≤ (t[1].toNat : Int) ∧ (t[1].toNat : Int) ≤ 191 := by omega
      obtain ⟨M, hM⟩ : ∃ M, M = (t.data.toList.take 3).drop 2 := ⟨_, rfl⟩
      have hML : M.length = 1 := by rw [hM, List.length_drop, List.length_take, lst_len]; omega
      obtain ⟨c, w1, hconv, hmb, hbl, hwz⟩ := mb_make (t.extract 2 3) w
      have hsz := size_ext t 2 3 (by omega) hz
      rw [lst_ext, ← hM] at hmb
      rw [← hM] at HU2
      rw [hsz] at hconv
      simp only [Nat.reduceSub] at hconv
      have HMB := Lib.hid hmb
      have HML := Lib.hid hML
      have HB := Lib.hid hbl
      clear hl hb hx hM hmb hML hbl hsz
      go_enter Try.func71, Try.ntmps71
      go_wp2
      go_loop [64] (fun i => ∃ k : Nat, k ≤ 1 ∧ i = .int .i64 k ∧ Hid ((M.take k).all contB = true)) (fun i => 1 - (intOf i).toNat)
      case atStart => exact ⟨0, by omega, rfl, rfl⟩
      case round =>
        obtain ⟨k, hk, rfl, HK⟩ := hrel
        by_cases hlt : k < 1
        · have hkl : k < M.length := by rw [HML.out]; exact hlt
          have hcell := (HMB.out k hkl).1
          unfold bv at hcell
          have hj : (k : Int) < 3 - 2 := by omega
          obtain ⟨d1, d2⟩ := byte_lt M[k]
          by_cases hcb : contB M[k] = true
          · have HN := Lib.hid (all_step hkl HK.out hcb)
            have hr : (128 : Int) ≤ (M[k].toNat : Int) ∧ (M[k].toNat : Int) ≤ 191 := by simp [contB] at hcb; omega
            clear hcb
            go_wp2
            all_goals (go_round; (case rel => exact ⟨k + 1, by omega, by go_num, HN⟩); (case measure => simp [intOf]; omega))
          · have HN := Lib.hid (all_hit hkl (by rw [Bool.not_eq_true] at hcb; exact hcb))
            have hr : (M[k].toNat : Int) < 128 ∨ ((128 : Int) ≤ (M[k].toNat : Int) ∧ (191 : Int) < (M[k].toNat : Int)) := by simp [contB] at hcb; omega
            clear hcb
            rcases hr with hr | hr
            all_goals go_wp2
            all_goals go_ret
            all_goals exact ⟨ret_int (by rw [HU2.out, if_neg (by rw [HN.out]; decide)]; rfl), HB.out⟩
        · have HN := Lib.hid (show M.all contB = true by have := HK.out; rwa [List.take_of_length_le (by rw [HML.out]; omega)] at this)
          go_wp2
          go_ret
          exact ⟨ret_int (by rw [HU2.out, if_pos HN.out]; rfl), HB.out⟩
  · have HU := Lib.hid (u8_short h0 hb hl (by omega) (by omega))
    have iz : (t.size : Int) < 3 := by omega
    clear hl hb
    go_enter Try.func71, Try.ntmps71
    go_wp2
    go_ret
    exact ⟨ret_int (by rw [HU.out]; rfl), Below.refl _ _⟩

set_option maxHeartbeats 1000000 in
set_option maxRecDepth 100000 in
theorem size_c4a (t : ByteArray) (w : World) (hs : t.size ≤ 140737488355328) (h0 : 0 < t.size) (hc : ((t[0].toNat : Int) == 240) = true ∧ (240 : Int) ≤ (t[0].toNat : Int) ∧ (t[0].toNat : Int) ≤ 240) :
    Calls Try.prog 71 #[.string t] w fun e w' => e = .returned (.int .i64 (u8size t.data.toList : Int)) ∧ Below w.heap.size w w' := by
  have hlead : u8lead t[0].toNat = (4, 144, 191) ∧ ¬ t[0].toNat < 128 := by
    try simp only [beq_iff_eq, beq_eq_false_iff_ne, ne_eq] at hc
    unfold u8lead
    constructor
    · repeat' split
      all_goals first | rfl | (exfalso; omega)
    · omega
  obtain ⟨hl, hb⟩ := hlead
  have i0 : (0 : Int) < t.size := by omega
  by_cases hz : 4 ≤ t.size
  · have HU := Lib.hid (u8_long (by omega) hb hl (by omega) hz)
    have i1 : (1 : Int) < t.size := by omega
    have hz1 : 1 < t.size := by omega
    have iz : (4 : Int) ≤ t.size := by omega
    obtain ⟨c1, c2⟩ := byte_lt t[1]
    by_cases hx : t[1].toNat < 144 ∨ 191 < t[1].toNat
    · have HU2 := Lib.hid (HU.out.trans (if_pos hx))
      have hx2 : (t[1].toNat : Int) < 144 ∨ ((144 : Int) ≤ (t[1].toNat : Int) ∧ (191 : Int) < (t[1].toNat : Int)) := by omega
      clear hl hb hx
      rcases hx2 with hx2 | hx2
      all_goals
        go_enter Try.func71, Try.ntmps71
        go_wp2
      all_goals go_ret
      all_goals exact ⟨ret_int (by rw [HU2.out]; rfl), Below.refl _ _⟩
    · have HU2 := Lib.hid (HU.out.trans (if_neg hx))
      have hx2 : (144 : Int) ≤ (t[1].toNat : Int) ∧ (t[1].toNat : Int) ≤ 191 := by omega
      obtain ⟨M, hM⟩ : ∃ M, M = (t.data.toList.take 4).drop 2 := ⟨_, rfl⟩
      have hML : M.length = 2 := by rw [hM, List.length_drop, List.length_take, lst_len]; omega
      obtain ⟨c, w1, hconv, hmb, hbl, hwz⟩ := mb_make (t.extract 2 4) w
      have hsz := size_ext t 2 4 (by omega) hz
      rw [lst_ext, ← hM] at hmb
      rw [← hM] at HU2
      rw [hsz] at hconv
      simp only [Nat.reduceSub] at hconv
      have HMB := Lib.hid hmb
      have HML := Lib.hid hML
      have HB := Lib.hid hbl
      clear hl hb hx hM hmb hML hbl hsz
      go_enter Try.func71, Try.ntmps71
      go_wp2
      go_loop [64] (fun i => ∃ k : Nat, k ≤ 2 ∧ i = .int .i64 k ∧ Hid ((M.take k).all contB = true)) (fun i => 2 - (intOf i).toNat)
      case atStart => exact ⟨0, by omega, rfl, rfl⟩
      case round =>
        obtain ⟨k, hk, rfl, HK⟩ := hrel
        by_cases hlt : k < 2
        · have hkl : k < M.length := by rw [HML.out]; exact hlt
          have hcell := (HMB.out k hkl).1
          unfold bv at hcell
          have hj : (k : Int) < 4 - 2 := by omega
          obtain ⟨d1, d2⟩ := byte_lt M[k]
          by_cases hcb : contB M[k] = true
          · have HN := Lib.hid (all_step hkl HK.out hcb)
            have hr : (128 : Int) ≤ (M[k].toNat : Int) ∧ (M[k].toNat : Int) ≤ 191 := by simp [contB] at hcb; omega
            clear hcb
            go_wp2
            all_goals (go_round; (case rel => exact ⟨k + 1, by omega, by go_num, HN⟩); (case measure => simp [intOf]; omega))
          · have HN := Lib.hid (all_hit hkl (by rw [Bool.not_eq_true] at hcb; exact hcb))
            have hr : (M[k].toNat : Int) < 128 ∨ ((128 : Int) ≤ (M[k].toNat : Int) ∧ (191 : Int) < (M[k].toNat : Int)) := by simp [contB] at hcb; omega
            clear hcb
            rcases hr with hr | hr
            all_goals go_wp2
            all_goals go_ret
            all_goals exact ⟨ret_int (by rw [HU2.out, if_neg (by rw [HN.out]; decide)]; rfl), HB.out⟩
        · have HN := Lib.hid (show M.all contB = true by have := HK.out; rwa [List.take_of_length_le (by rw [HML.out]; omega)] at this)
          go_wp2
          go_ret
          exact ⟨ret_int (by rw [HU2.out, if_pos HN.out]; rfl), HB.out⟩
  · have HU := Lib.hid (u8_short h0 hb hl (by omega) (by omega))
    have iz : (t.size : Int) < 4 := by omega
    clear hl hb
    go_enter Try.func71, Try.ntmps71
    go_wp2
    go_ret
    exact ⟨ret_int (by rw [HU.out]; rfl), Below.refl _ _⟩

set_option maxHeartbeats 1000000 in
set_option maxRecDepth 100000 in
theorem size_c4b (t : ByteArray) (w : World) (hs : t.size ≤ 140737488355328) (h0 : 0 < t.size) (hc : ((t[0].toNat : Int) == 240) = false ∧ ((t[0].toNat : Int) == 244) = true ∧ (244 : Int) ≤ (t[0].toNat : Int) ∧ (t[0].toNat : Int) ≤ 244) :
    Calls Try.prog 71 #[.string t] w fun e w' => e = .returned (.int .i64 (u8size t.data.toList : Int)) ∧ Below w.heap.size w w' := by
  have hlead : u8lead t[0].toNat = (4, 128, 143) ∧ ¬ t[0].toNat < 128 := by
    try simp only [beq_iff_eq, beq_eq_false_iff_ne, ne_eq] at hc
    unfold u8lead
    constructor
    · repeat' split
      all_goals first | rfl | (exfalso; omega)
    · omega
  obtain ⟨hl, hb⟩ := hlead
  have i0 : (0 : Int) < t.size := by omega
  by_cases hz : 4 ≤ t.size
  · have HU := Lib.hid (u8_long (by omega) hb hl (by omega) hz)
    have i1 : (1 : Int) < t.size := by omega
    have hz1 : 1 < t.size := by omega
    have iz : (4 : Int) ≤ t.size := by omega
    obtain ⟨c1, c2⟩ := byte_lt t[1]
    by_cases hx : t[1].toNat < 128 ∨ 143 < t[1].toNat
    · have HU2 := Lib.hid (HU.out.trans (if_pos hx))
      have hx2 : (t[1].toNat : Int) < 128 ∨ ((128 : Int) ≤ (t[1].toNat : Int) ∧ (143 : Int) < (t[1].toNat : Int)) := by omega
      clear hl hb hx
      rcases hx2 with hx2 | hx2
      all_goals
        go_enter Try.func71, Try.ntmps71
        go_wp2
      all_goals go_ret
      all_goals exact ⟨ret_int (by rw [HU2.out]; rfl), Below.refl _ _⟩
    · have HU2 := Lib.hid (HU.out.trans (if_neg hx))
      have hx2 : (128 : Int) ≤ (t[1].toNat : Int) ∧ (t[1].toNat : Int) ≤ 143 := by omega
      obtain ⟨M, hM⟩ : ∃ M, M = (t.data.toList.take 4).drop 2 := ⟨_, rfl⟩
      have hML : M.length = 2 := by rw [hM, List.length_drop, List.length_take, lst_len]; omega
      obtain ⟨c, w1, hconv, hmb, hbl, hwz⟩ := mb_make (t.extract 2 4) w
      have hsz := size_ext t 2 4 (by omega) hz
      rw [lst_ext, ← hM] at hmb
      rw [← hM] at HU2
      rw [hsz] at hconv
      simp only [Nat.reduceSub] at hconv
      have HMB := Lib.hid hmb
      have HML := Lib.hid hML
      have HB := Lib.hid hbl
      clear hl hb hx hM hmb hML hbl hsz
      go_enter Try.func71, Try.ntmps71
      go_wp2
      go_loop [64] (fun i => ∃ k : Nat, k ≤ 2 ∧ i = .int .i64 k ∧ Hid ((M.take k).all contB = true)) (fun i => 2 - (intOf i).toNat)
      case atStart => exact ⟨0, by omega, rfl, rfl⟩
      case round =>
        obtain ⟨k, hk, rfl, HK⟩ := hrel
        by_cases hlt : k < 2
        · have hkl : k < M.length := by rw [HML.out]; exact hlt
          have hcell := (HMB.out k hkl).1
          unfold bv at hcell
          have hj : (k : Int) < 4 - 2 := by omega
          obtain ⟨d1, d2⟩ := byte_lt M[k]
          by_cases hcb : contB M[k] = true
          · have HN := Lib.hid (all_step hkl HK.out hcb)
            have hr : (128 : Int) ≤ (M[k].toNat : Int) ∧ (M[k].toNat : Int) ≤ 191 := by simp [contB] at hcb; omega
            clear hcb
            go_wp2
            all_goals (go_round; (case rel => exact ⟨k + 1, by omega, by go_num, HN⟩); (case measure => simp [intOf]; omega))
          · have HN := Lib.hid (all_hit hkl (by rw [Bool.not_eq_true] at hcb; exact hcb))
            have hr : (M[k].toNat : Int) < 128 ∨ ((128 : Int) ≤ (M[k].toNat : Int) ∧ (191 : Int) < (M[k].toNat : Int)) := by simp [contB] at hcb; omega
            clear hcb
            rcases hr with hr | hr
            all_goals go_wp2
            all_goals go_ret
            all_goals exact ⟨ret_int (by rw [HU2.out, if_neg (by rw [HN.out]; decide)]; rfl), HB.out⟩
        · have HN := Lib.hid (show M.all contB = true by have := HK.out; rwa [List.take_of_length_le (by rw [HML.out]; omega)] at this)
          go_wp2
          go_ret
          exact ⟨ret_int (by rw [HU2.out, if_pos HN.out]; rfl), HB.out⟩
  · have HU := Lib.hid (u8_short h0 hb hl (by omega) (by omega))
    have iz : (t.size : Int) < 4 := by omega
    clear hl hb
    go_enter Try.func71, Try.ntmps71
    go_wp2
    go_ret
    exact ⟨ret_int (by rw [HU.out]; rfl), Below.refl _ _⟩

set_option maxHeartbeats 1000000 in
set_option maxRecDepth 100000 in
theorem size_c4c (t : ByteArray) (w : World) (hs : t.size ≤ 140737488355328) (h0 : 0 < t.size) (hc : ((t[0].toNat : Int) == 240) = false ∧ ((t[0].toNat : Int) == 244) = false ∧ (240 : Int) ≤ (t[0].toNat : Int) ∧ (t[0].toNat : Int) ≤ 244) :
    Calls Try.prog 71 #[.string t] w fun e w' => e = .returned (.int .i64 (u8size t.data.toList : Int)) ∧ Below w.heap.size w w' := by
  have hlead : u8lead t[0].toNat = (4, 128, 191) ∧ ¬ t[0].toNat < 128 := by
    try simp only [beq_iff_eq, beq_eq_false_iff_ne, ne_eq] at hc
    unfold u8lead
    constructor
    · repeat' split
      all_goals first | rfl | (exfalso; omega)
    · omega
  obtain ⟨hl, hb⟩ := hlead
  have i0 : (0 : Int) < t.size := by omega
  by_cases hz : 4 ≤ t.size
  · have HU := Lib.hid (u8_long (by omega) hb hl (by omega) hz)
    have i1 : (1 : Int) < t.size := by omega
    have hz1 : 1 < t.size := by omega
    have iz : (4 : Int) ≤ t.size := by omega
    obtain ⟨c1, c2⟩ := byte_lt t[1]
    by_cases hx : t[1].toNat < 128 ∨ 191 < t[1].toNat
    · have HU2 := Lib.hid (HU.out.trans (if_pos hx))
      have hx2 : (t[1].toNat : Int) < 128 ∨ ((128 : Int) ≤ (t[1].toNat : Int) ∧ (191 : Int) < (t[1].toNat : Int)) := by omega
      clear hl hb hx
      rcases hx2 with hx2 | hx2
      all_goals
        go_enter Try.func71, Try.ntmps71
        go_wp2
      all_goals go_ret
      all_goals exact ⟨ret_int (by rw [HU2.out]; rfl), Below.refl _ _⟩
    · have HU2 := Lib.hid (HU.out.trans (if_neg hx))
      have hx2 : (128 : Int) ≤ (t[1].toNat : Int) ∧ (t[1].toNat : Int) ≤ 191 := by omega
      obtain ⟨M, hM⟩ : ∃ M, M = (t.data.toList.take 4).drop 2 := ⟨_, rfl⟩
      have hML : M.length = 2 := by rw [hM, List.length_drop, List.length_take, lst_len]; omega
      obtain ⟨c, w1, hconv, hmb, hbl, hwz⟩ := mb_make (t.extract 2 4) w
      have hsz := size_ext t 2 4 (by omega) hz
      rw [lst_ext, ← hM] at hmb
      rw [← hM] at HU2
      rw [hsz] at hconv
      simp only [Nat.reduceSub] at hconv
      have HMB := Lib.hid hmb
      have HML := Lib.hid hML
      have HB := Lib.hid hbl
      clear hl hb hx hM hmb hML hbl hsz
      go_enter Try.func71, Try.ntmps71
      go_wp2
      go_loop [64] (fun i => ∃ k : Nat, k ≤ 2 ∧ i = .int .i64 k ∧ Hid ((M.take k).all contB = true)) (fun i => 2 - (intOf i).toNat)
      case atStart => exact ⟨0, by omega, rfl, rfl⟩
      case round =>
        obtain ⟨k, hk, rfl, HK⟩ := hrel
        by_cases hlt : k < 2
        · have hkl : k < M.length := by rw [HML.out]; exact hlt
          have hcell := (HMB.out k hkl).1
          unfold bv at hcell
          have hj : (k : Int) < 4 - 2 := by omega
          obtain ⟨d1, d2⟩ := byte_lt M[k]
          by_cases hcb : contB M[k] = true
          · have HN := Lib.hid (all_step hkl HK.out hcb)
            have hr : (128 : Int) ≤ (M[k].toNat : Int) ∧ (M[k].toNat : Int) ≤ 191 := by simp [contB] at hcb; omega
            clear hcb
            go_wp2
            all_goals (go_round; (case rel => exact ⟨k + 1, by omega, by go_num, HN⟩); (case measure => simp [intOf]; omega))
          · have HN := Lib.hid (all_hit hkl (by rw [Bool.not_eq_true] at hcb; exact hcb))
            have hr : (M[k].toNat : Int) < 128 ∨ ((128 : Int) ≤ (M[k].toNat : Int) ∧ (191 : Int) < (M[k].toNat : Int)) := by simp [contB] at hcb; omega
            clear hcb
            rcases hr with hr | hr
            all_goals go_wp2
            all_goals go_ret
            all_goals exact ⟨ret_int (by rw [HU2.out, if_neg (by rw [HN.out]; decide)]; rfl), HB.out⟩
        · have HN := Lib.hid (show M.all contB = true by have := HK.out; rwa [List.take_of_length_le (by rw [HML.out]; omega)] at this)
          go_wp2
          go_ret
          exact ⟨ret_int (by rw [HU2.out, if_pos HN.out]; rfl), HB.out⟩
  · have HU := Lib.hid (u8_short h0 hb hl (by omega) (by omega))
    have iz : (t.size : Int) < 4 := by omega
    clear hl hb
    go_enter Try.func71, Try.ntmps71
    go_wp2
    go_ret
    exact ⟨ret_int (by rw [HU.out]; rfl), Below.refl _ _⟩

set_option maxHeartbeats 1000000 in
set_option maxRecDepth 100000 in
theorem size_any (t : ByteArray) (w : World) (hs : t.size ≤ 140737488355328) (h0 : 0 < t.size) :
    Calls Try.prog 71 #[.string t] w fun e w' => e = .returned (.int .i64 (u8size t.data.toList : Int)) ∧ Below w.heap.size w w' := by
  obtain ⟨c1, c2⟩ := byte_lt t[0]
  have i0 : (0 : Int) < t.size := by omega
  by_cases ha : t[0].toNat < 128
  · have HU := Lib.hid (u8_ascii h0 ha)
    have ha2 : (t[0].toNat : Int) < 128 := by omega
    clear ha
    go_enter Try.func71, Try.ntmps71
    go_wp2
    go_ret
    exact ⟨ret_int (by rw [HU.out]; rfl), Below.refl _ _⟩
  · by_cases h2 : (194 : Int) ≤ (t[0].toNat : Int) ∧ (t[0].toNat : Int) ≤ 223
    · exact size_c2 t w hs h0 h2
    · by_cases h3 : (224 : Int) ≤ (t[0].toNat : Int) ∧ (t[0].toNat : Int) ≤ 239
      · cases e1 : ((t[0].toNat : Int) == 224) with
        | true => exact size_c3a t w hs h0 ⟨e1, by rw [beq_iff_eq] at e1; omega⟩
        | false =>
          cases e2 : ((t[0].toNat : Int) == 237) with
          | true => exact size_c3b t w hs h0 ⟨e1, e2, by rw [beq_iff_eq] at e2; omega⟩
          | false => exact size_c3c t w hs h0 ⟨e1, e2, h3⟩
      · by_cases h4 : (240 : Int) ≤ (t[0].toNat : Int) ∧ (t[0].toNat : Int) ≤ 244
        · cases e1 : ((t[0].toNat : Int) == 240) with
          | true => exact size_c4a t w hs h0 ⟨e1, by rw [beq_iff_eq] at e1; omega⟩
          | false =>
            cases e2 : ((t[0].toNat : Int) == 244) with
            | true => exact size_c4b t w hs h0 ⟨e1, e2, by rw [beq_iff_eq] at e2; omega⟩
            | false => exact size_c4c t w hs h0 ⟨e1, e2, h4⟩
        · have HU := Lib.hid (u8_no h0 ha (by unfold u8lead; rw [if_neg (by omega), if_neg (by omega), if_neg (by omega)]))
          have hx : (128 ≤ (t[0].toNat : Int) ∧ (t[0].toNat : Int) < 194) ∨ (244 : Int) < (t[0].toNat : Int) := by omega
          clear ha h2 h3 h4
          rcases hx with hx | hx
          all_goals
            go_enter Try.func71, Try.ntmps71
            go_wp2
          all_goals go_ret
          all_goals exact ⟨ret_int (by rw [HU.out]; rfl), Below.refl _ _⟩
end Go.Proofs.Ytahcgajipnkojaa
