/- Walks: octet.escaped, octet.Unquote, wickref.Unquote. -/
import Derived.Test.YtahcgajipnkojaaQuote
import Derived.Test.YtahcgajipnkojaaUrlD
import Derived.Test.YtahcgajipnkojaaDecO
import Derived.Test.YtahcgajipnkojaaTxtC
namespace Go.Proofs.Ytahcgajipnkojaa
open Go.RowKit
set_option linter.unusedVariables false
set_option linter.unusedSimpArgs false

/-- what stands behind a backslash: its byte, and how many bytes it takes; 0: none -/
def escF (l : List UInt8) : UInt8 × Nat :=
  match l with
  | [] => (0, 0)
  | a :: r => if (0 : Int) ≤ ixb [110, 114, 116, 115, 92, 45] (a.toNat : Int) then (([10, 13, 9, 32, 92, 45] : List UInt8).getD (ixb [110, 114, 116, 115, 92, 45] (a.toNat : Int)).toNat 0, 1) else if a = 120 then
      (match r with
       | b :: c :: _ => if (0 : Int) ≤ ixb loHex (b.toNat : Int) ∧ (0 : Int) ≤ ixb loHex (c.toNat : Int) then (UInt8.ofNat ((16 : Int) * hexv (b.toNat : Int) + hexv (c.toNat : Int)).toNat, 3) else (0, 0)
       | _ => (0, 0)) else (0, 0)
theorem esc_nil {t : ByteArray} (h : ¬ 0 < t.size) : escF t.data.toList = (0, 0) := by
  have := drop_all t (k := 0) (by omega); rw [List.drop_zero] at this; rw [this]; rfl
theorem esc_cons {t : ByteArray} (h : 0 < t.size) : t.data.toList = t[0] :: t.data.toList.drop 1 := by
  have := drop_cons t 0 h; rwa [List.drop_zero] at this
theorem esc_short {t : ByteArray} (h : 0 < t.size) (h1 : ixb [110, 114, 116, 115, 92, 45] (t[0].toNat : Int) < 0) (h3 : t.size < 3) : escF t.data.toList = (0, 0) := by
  rw [esc_cons h]; unfold escF
  dsimp only; rw [if_neg (by omega)]
  have hl : (t.data.toList.drop 1).length < 2 := by rw [List.length_drop, lst_len]; omega
  match hd : t.data.toList.drop 1 with
  | [] => split <;> rfl
  | [_] => split <;> rfl
  | _ :: _ :: _ => rw [hd] at hl; simp at hl; omega
theorem esc_not {t : ByteArray} (h : 0 < t.size) (h1 : ixb [110, 114, 116, 115, 92, 45] (t[0].toNat : Int) < 0) (h2 : ¬ t[0] = 120) : escF t.data.toList = (0, 0) := by
  rw [esc_cons h]; unfold escF
  dsimp only; rw [if_neg (by omega), if_neg h2]
theorem esc_long {t : ByteArray} (h : 2 < t.size) (h1 : ixb [110, 114, 116, 115, 92, 45] (t[0].toNat : Int) < 0) (h2 : t[0] = 120) :
    escF t.data.toList = if (0 : Int) ≤ ixb loHex (t[1].toNat : Int) ∧ (0 : Int) ≤ ixb loHex (t[2].toNat : Int) then (UInt8.ofNat ((16 : Int) * hexv (t[1].toNat : Int) + hexv (t[2].toNat : Int)).toNat, 3) else (0, 0) := by
  rw [esc_cons (by omega), drop_cons t 1 (by omega), drop_cons t 2 (by omega)]; unfold escF
  dsimp only; rw [if_neg (by omega), if_pos h2]
theorem esc_one {t : ByteArray} (h : 0 < t.size) (K : Nat) (h1 : ixb [110, 114, 116, 115, 92, 45] (t[0].toNat : Int) = K) : escF t.data.toList = (([10, 13, 9, 32, 92, 45] : List UInt8).getD K 0, 1) := by
  rw [esc_cons h]; unfold escF
  dsimp only; rw [if_pos (by omega), h1]; rfl
theorem ix_cases : ∀ b : UInt8, (∃ K : Fin 6, ixb [110, 114, 116, 115, 92, 45] (b.toNat : Int) = (K.val : Int)) ∨ ixb [110, 114, 116, 115, 92, 45] (b.toNat : Int) = -1 := all_bytes (by decide +kernel)
theorem un_size : (ByteArray.mk #[10, 13, 9, 32, 92, 45]).size = 6 := rfl
theorem un_fin : ∀ k : Fin 6, ((ByteArray.mk #[10, 13, 9, 32, 92, 45])[k.val]'(by rw [un_size]; exact k.isLt)) = ([10, 13, 9, 32, 92, 45] : List UInt8).getD k.val 0 := by decide
theorem un_at (k : Nat) (h : k < 6) : ((ByteArray.mk #[10, 13, 9, 32, 92, 45])[k]'(by rw [un_size]; exact h)) = ([10, 13, 9, 32, 92, 45] : List UInt8).getD k 0 := un_fin ⟨k, h⟩
theorem lohex_val : ∀ b : UInt8, (0 : Int) ≤ ixb loHex (b.toNat : Int) → (0 : Int) ≤ hexv (b.toNat : Int) := all_bytes (by decide +kernel)
theorem esc_le (l : List UInt8) : (escF l).2 ≤ l.length := by
  unfold escF
  match l with
  | [] => exact Nat.le_refl _
  | a :: r =>
    simp only
    split
    · simp
    · split
      · match r with
        | [] => simp
        | [_] => simp
        | b :: c :: r2 => simp only; split <;> simp
      · simp

theorem ixb_raw (s : ByteArray) (n : Int) (w : World) :
    Calls Try.prog 65 #[.string s, .int .u8 n] w fun e w' => e = .returned (.int .i64 (ixb s.data.toList n)) ∧ w = w' := indexByte_any s _ rfl n w
theorem loHex_is : loHex = [48, 49, 50, 51, 52, 53, 54, 55, 56, 57, 97, 98, 99, 100, 101, 102] := rfl

set_option maxHeartbeats 1000000 in
theorem escaped_any (t : ByteArray) (w : World) (hs : t.size ≤ 140737488355328) :
    Calls Try.prog 72 #[.string t] w fun e w' => e = .returned (.tuple #[.int .u8 ((escF t.data.toList).1.toNat : Int), .int .i64 ((escF t.data.toList).2 : Int)]) ∧ ∃ q, w' = w.drewN q := by
  by_cases h0 : 0 < t.size
  · have e1 : t.toList.isEmpty = false := by rw [list_nil, decide_eq_false_iff_not]; intro h; rw [esc_cons h0] at h; cases h
    have i0 : (0 : Int) < t.size := by omega
    obtain ⟨c1, c2⟩ := byte_lt t[0]
    rcases ix_cases t[0] with ⟨⟨K, hK⟩, hx⟩ | hx
    · have HX := Lib.hid hx
      have HE := Lib.hid (esc_one h0 K hx)
      have i1 : (0 : Int) ≤ K ∧ (K : Int) < 6 := by omega
      go_enter Try.func72, Try.ntmps72
      go_wp2_with (go_at_call 65; refine (ixb_raw _ _ _).mono ?_; rintro e w' ⟨rfl, rfl⟩)
      go_ret2
      exact ⟨by rw [HE.out, ← un_at K hK]; rfl, 0, rfl⟩
    · have HX := Lib.hid hx
      by_cases h120 : t[0] = 120
      · have e120 : ((t[0].toNat : Int) != 120) = false := byte_neqf (c := 120) h120
        by_cases h3 : 2 < t.size
        · obtain ⟨c3, c4⟩ := byte_lt t[1]
          obtain ⟨c5, c6⟩ := byte_lt t[2]
          have i1 : (1 : Int) < t.size := by omega
          have i2 : (2 : Int) < t.size := by omega
          have HE := Lib.hid (esc_long h3 (by omega) h120)
          have d1 := hexv_le t[1].toNat
          have d2 := hexv_ge t[1].toNat
          have d3 := hexv_le t[2].toNat
          have d4 := hexv_ge t[2].toNat
          by_cases p1 : (0 : Int) ≤ ixb loHex (t[1].toNat : Int)
          · have p1' := p1
            rw [loHex_is] at p1'
            by_cases p2 : (0 : Int) ≤ ixb loHex (t[2].toNat : Int)
            · have p2' := p2
              rw [loHex_is] at p2'
              have v1 := lohex_val _ p1
              have v2 := lohex_val _ p2
              have HE2 := Lib.hid (HE.out.trans (if_pos ⟨p1, p2⟩))
              clear h120
              go_enter Try.func72, Try.ntmps72
              go_wp2_with (go_at_call 65; refine (ixb_raw _ _ _).mono ?_; rintro e w' ⟨rfl, rfl⟩)
              go_quiet (first | (go_at_call 77; exact quiet_left (digit_any _ (by omega) (by omega) _)))
              go_wp2
              go_ret2
              refine ⟨?_, _, rfl⟩
              rw [HE2.out]
              show Ending.returned (.tuple #[.int .u8 (bits .or .i64 (hexv (t[1].toNat : Int) * 16) (hexv (t[2].toNat : Int)) % 256), .int .i64 3]) = _
              rw [Int.mul_comm, or_hex' _ _ (by omega) (by omega) (by omega) (by omega)]
              refine ret_two ?_ rfl
              rw [toNat_of _ (by omega)]
              congr 1; omega
            · have p2' := p2
              rw [loHex_is] at p2'
              have HE2 := Lib.hid (HE.out.trans (if_neg (fun h => p2 h.2)))
              clear h120
              go_enter Try.func72, Try.ntmps72
              go_wp2_with (go_at_call 65; refine (ixb_raw _ _ _).mono ?_; rintro e w' ⟨rfl, rfl⟩)
              go_ret2
              exact ⟨by rw [HE2.out]; rfl, 0, rfl⟩
          · have p1' := p1
            rw [loHex_is] at p1'
            have HE2 := Lib.hid (HE.out.trans (if_neg (fun h => p1 h.1)))
            clear h120
            go_enter Try.func72, Try.ntmps72
            go_wp2_with (go_at_call 65; refine (ixb_raw _ _ _).mono ?_; rintro e w' ⟨rfl, rfl⟩)
            go_ret2
            exact ⟨by rw [HE2.out]; rfl, 0, rfl⟩
        · have HE := Lib.hid (esc_short h0 (by omega) (by omega))
          have i2 : (t.size : Int) < 3 := by omega
          clear h120
          go_enter Try.func72, Try.ntmps72
          go_wp2_with (go_at_call 65; refine (ixb_raw _ _ _).mono ?_; rintro e w' ⟨rfl, rfl⟩)
          go_ret2
          exact ⟨by rw [HE.out]; rfl, 0, rfl⟩
      · have e120 : ((t[0].toNat : Int) != 120) = true := byte_neq (c := 120) h120
        have HE := Lib.hid (esc_not h0 (by omega) h120)
        clear h120
        go_enter Try.func72, Try.ntmps72
        go_wp2_with (go_at_call 65; refine (ixb_raw _ _ _).mono ?_; rintro e w' ⟨rfl, rfl⟩)
        go_ret2
        exact ⟨by rw [HE.out]; rfl, 0, rfl⟩
  · have e1 : t.toList.isEmpty = true := by rw [list_nil]; simp; have := drop_all t (k := 0) (by omega); rw [List.drop_zero] at this; simpa using this
    have HE := Lib.hid (esc_nil h0)
    go_enter Try.func72, Try.ntmps72
    go_wp2
    go_ret2
    exact ⟨by rw [HE.out]; rfl, 0, rfl⟩

/-- the front of a word in Unquote -/
def unF (l : List UInt8) : Option (UInt8 × Nat) :=
  match l with
  | [] => none
  | c :: r => if c = 92 then (if (escF r).2 = 0 then none else some ((escF r).1, (escF r).2 + 1)) else if c.toNat < 33 ∨ 126 < c.toNat then none else some (c, 1)
theorem unF_at {s : ByteArray} {k : Nat} (h : k < s.size) : unF (s.data.toList.drop k) =
    if s[k] = 92 then (if (escF (s.data.toList.drop (k + 1))).2 = 0 then none else some ((escF (s.data.toList.drop (k + 1))).1, (escF (s.data.toList.drop (k + 1))).2 + 1)) else if s[k].toNat < 33 ∨ 126 < s[k].toNat then none else some (s[k], 1) := by
  rw [drop_cons s k h]; rfl
/-- Unquote: the text, and its error -/
def unqT (l : List UInt8) : List UInt8 := if l = [45] then [] else (decO unF l).getD []
def unqE (l : List UInt8) : Int := if l = [45] then 0 else if l = [] then 3 else if (decO unF l).isSome then 0 else 3
theorem unq_some {l A : List UInt8} (h : ¬ l = [45]) (h0 : ¬ l = []) (hd : decO unF l = some A) : unqT l = A ∧ unqE l = 0 := by simp [unqT, unqE, h, h0, hd]
theorem unq_none {l : List UInt8} (h : ¬ l = [45]) (h0 : ¬ l = []) (hd : decO unF l = none) : unqT l = [] ∧ unqE l = 3 := by simp [unqT, unqE, h, h0, hd]

theorem escaped_res (t : ByteArray) (l : List UInt8) (x : UInt8) (n : Nat) (hl : t.data.toList = l) (hx : (escF l).1 = x) (hn : (escF l).2 = n) (w : World) (hs : t.size ≤ 140737488355328) :
    Calls Try.prog 72 #[.string t] w fun e w' => e = .returned (.tuple #[.int .u8 (x.toNat : Int), .int .i64 (n : Int)]) ∧ ∃ q, w' = w.drewN q := by
  subst hl; subst hx; subst hn; exact escaped_any t w hs

set_option maxHeartbeats 1000000 in
theorem unquote_any (s : ByteArray) (w : World) (hs : s.size ≤ 140737488355320) :
    Calls Try.prog 34 #[.string s] w fun e w' => e = .returned (.tuple #[.string (str (unqT s.data.toList)), .int .i64 (unqE s.data.toList)]) ∧ Below w.heap.size w w' := by
  by_cases h1 : s.data.toList = [45]
  · have HQ := Lib.hid (show unqT s.data.toList = [] ∧ unqE s.data.toList = 0 by simp [unqT, unqE, h1])
    have e2 := (list_one 45).trans (decide_eq_true h1)
    clear h1
    go_enter Try.func34, Try.ntmps34
    go_wp2
    go_ret2
    exact ⟨by rw [HQ.out.1, HQ.out.2]; rfl, Below.refl _ _⟩
  · have e2 := (list_one 45).trans (decide_eq_false h1)
    by_cases h0 : s.data.toList = []
    · have HQ := Lib.hid (show unqT s.data.toList = [] ∧ unqE s.data.toList = 3 by simp [unqT, unqE, h1, h0, decO_nil])
      have e1 := list_nil.trans (decide_eq_true h0)
      clear h0 h1
      go_enter Try.func34, Try.ntmps34
      go_wp2
      go_ret2
      exact ⟨by rw [HQ.out.1, HQ.out.2]; rfl, Below.refl _ _⟩
    · have e1 := list_nil.trans (decide_eq_false h0)
      have HS := Lib.hid (fun A => unq_some (A := A) h1 h0)
      have HN := Lib.hid (unq_none h1 h0)
      clear h0 h1
      go_enter Try.func34, Try.ntmps34
      go_wp2_with fail
      go_loopw [4, 5] (fun v i wr => ∃ (k : Nat) (A : List UInt8), k ≤ s.size ∧ A.length ≤ k ∧ i = .int .i64 k ∧ OB wr w.heap.size v A ∧ Hid (decO unF s.data.toList = (decO unF (s.data.toList.drop k)).map (A ++ ·)) ∧ Below w.heap.size w wr) (fun _ i _ => s.size - (intOf i).toNat)
      case atStart => exact ⟨0, [], by omega, by simp, rfl, OB.nil _ _, decO_start _, Below.refl _ _⟩
      case round =>
        obtain ⟨k, A, hk, hA, rfl, hown, HE, hbl⟩ := hrel
        have HO := Lib.hid hown
        have hsz := hbl.size
        have HB := Lib.hid hbl
        clear hown hbl
        by_cases hlt : k < s.size
        · obtain ⟨c1, c2⟩ := byte_lt s[k]
          have HF := Lib.hid (unF_at hlt)
          by_cases h92 : s[k] = 92
          · have e92 : ((s[k].toNat : Int) == 92) = true := byte_eq (c := 92) h92
            have hl : (s.extract (k + 1) s.size).data.toList = s.data.toList.drop (k + 1) := Lib.extract_to_end s (k + 1)
            have hsz2 := size_ext s (k + 1) s.size (by omega) (by omega)
            have hsz3 : (s.extract (k + 1) s.size).size ≤ s.size := by omega
            have hle := esc_le (s.data.toList.drop (k + 1))
            rw [List.length_drop, lst_len] at hle
            obtain ⟨x, hx⟩ : ∃ x, (escF (s.data.toList.drop (k + 1))).1 = x := ⟨_, rfl⟩
            obtain ⟨n, hn⟩ : ∃ n, (escF (s.data.toList.drop (k + 1))).2 = n := ⟨_, rfl⟩
            rw [hn] at hle
            have HL := Lib.hid hl
            have HX := Lib.hid hx
            have HNn := Lib.hid hn
            rw [hx, hn] at HF
            clear hl hsz2 hx hn
            obtain ⟨x1, x2⟩ := byte_lt x
            by_cases hn0 : n = 0
            · have HD := Lib.hid (HN.out (decO_bad HE (decO_none hlt (HF.out.trans ((if_pos h92).trans (if_pos hn0))))))
              have en : ((n : Int) == 0) = true := beq_iff_eq.2 (by omega)
              clear h92 hn0
              go_wp2_with (go_at_call 72; refine (escaped_res _ _ x n HL.out HX.out HNn.out _ (by omega)).mono ?_; rintro e w' ⟨rfl, q, rfl⟩)
              go_ret2
              exact ⟨by rw [HD.out.1, HD.out.2]; rfl, below_drewN HB.out q⟩
            · have HD := Lib.hid (decO_some hlt (by omega) (HF.out.trans ((if_pos h92).trans (if_neg hn0))))
              have en : ((n : Int) == 0) = false := beq_eq_false_iff_ne.2 (by omega)
              clear h92
              go_wp2_with (first
                | (go_at_call 72; refine (escaped_res _ _ x n HL.out HX.out HNn.out _ (by omega)).mono ?_; rintro e w' ⟨rfl, q, rfl⟩)
                | (at_builtin; refine wpL_app rfl (.tmp 45) (.tmp 47) rfl (HO.out.drewN q) rfl _ [x] rfl rfl (by simp only [List.length_cons, List.length_nil]; omega) hsz ?_; intro v' w1 ho1 hb1))
              go_roundw
              case rel => exact ⟨k + (n + 1), A ++ [x], by omega, by rw [List.length_append]; simp; omega, by go_num, ho1, decO_keep HE HD.out, (below_drewN HB.out q).trans hb1⟩
              case measure => simp [intOf]; omega
          · have e92 : ((s[k].toNat : Int) == 92) = false := byte_ne (c := 92) h92
            by_cases hr : s[k].toNat < 33 ∨ 126 < s[k].toNat
            · have HD := Lib.hid (HN.out (decO_bad HE (decO_none hlt (HF.out.trans ((if_neg h92).trans (if_pos hr))))))
              have hr2 : (s[k].toNat : Int) < 33 ∨ (33 ≤ (s[k].toNat : Int) ∧ 126 < (s[k].toNat : Int)) := by omega
              clear h92 hr
              rcases hr2 with hr2 | hr2
              all_goals go_wp2_with fail
              all_goals go_ret2
              all_goals exact ⟨by rw [HD.out.1, HD.out.2]; rfl, HB.out⟩
            · have HD := Lib.hid (decO_some hlt (by omega) (HF.out.trans ((if_neg h92).trans (if_neg hr))))
              have hr2 : 33 ≤ (s[k].toNat : Int) ∧ (s[k].toNat : Int) ≤ 126 := by omega
              clear h92 hr
              go_wp2_with (at_builtin; refine wpL_app rfl (.tmp 45) (.tmp 47) rfl HO.out rfl _ [s[k]] rfl rfl (by simp only [List.length_cons, List.length_nil]; omega) hsz ?_; intro v' w1 ho1 hb1)
              go_roundw
              case rel => exact ⟨k + 1, A ++ [s[k]], by omega, by rw [List.length_append]; simp; omega, by go_num, ho1, decO_keep HE HD.out, HB.out.trans hb1⟩
              case measure => simp [intOf]; omega
        · have h := ob_str HO.out
          have HD := Lib.hid (HS.out A (decO_end HE (by omega)))
          go_wp2
          go_ret2
          exact ⟨by rw [HD.out.1, HD.out.2]; rfl, HB.out⟩
end Go.Proofs.Ytahcgajipnkojaa
