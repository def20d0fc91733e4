/- Walk: wickref.Joined; strings.Split, strings.Join, strings.HasPrefix in the same words; what Path comes to. -/
import Derived.Test.YthfolopnjmkllaaDoorClnE
import Derived.Test.YthfolopnjmkllaaDoorSpA
namespace Go.Proofs.YthfolopnjmkllaaDoor
open Go.RowKit
set_option linter.unusedVariables false
set_option linter.unusedSimpArgs false

def jk (sep : List UInt8) (xs : List ByteArray) : Nat → List UInt8
  | 0 => []
  | k + 1 => jk sep xs k ++ (if 0 < k then sep else []) ++ (xs.getD k ⟨#[]⟩).data.toList
theorem jk_cons (sep : List UInt8) (x : ByteArray) (r : List ByteArray) : ∀ k, k ≤ r.length → jk sep (x :: r) (k + 1) = x.data.toList ++ Lib.joinTail sep ((dl r).take k)
  | 0, _ => by simp [jk, Lib.joinTail]
  | k + 1, h => by
    rw [jk, jk_cons sep x r k (by omega), if_pos (by omega)]
    have hk : (dl r)[k]? = some (r[k]'(by omega)).data.toList := by rw [List.getElem?_map, List.getElem?_eq_getElem (by omega)]; rfl
    rw [Lib.joinTail_take_succ sep _ k _ hk]
    have hg : ((x :: r).getD (k + 1) ⟨#[]⟩) = r[k]'(by omega) := by rw [List.getD, List.getElem?_cons_succ, List.getElem?_eq_getElem (by omega)]; rfl
    rw [hg]; simp [List.append_assoc]
theorem jk_all (sep : List UInt8) (xs : List ByteArray) : jk sep xs xs.length = Lib.join (dl xs) sep := by
  cases xs with
  | nil => rfl
  | cons x r =>
    rw [List.length_cons, jk_cons sep x r r.length (Nat.le_refl _), show dl (x :: r) = x.data.toList :: dl r from rfl, Lib.join_cons, List.take_of_length_le (by rw [List.length_map]; exact Nat.le_refl _)]
theorem jk_mono (sep : List UInt8) (xs : List ByteArray) (k : Nat) : ∀ n, k ≤ n → (jk sep xs k).length ≤ (jk sep xs n).length
  | 0, h => by rw [show k = 0 by omega]; exact Nat.le_refl _
  | n + 1, h => by
    by_cases e : k = n + 1
    · rw [e]; exact Nat.le_refl _
    · have := jk_mono sep xs k n (by omega)
      rw [jk, List.length_append, List.length_append]; omega
theorem jk_first (sep : List UInt8) (xs : List ByteArray) (h : 0 < xs.length) : jk sep xs 1 = xs[0].data.toList := by
  rw [jk, jk, if_neg (by omega), List.getD, List.getElem?_eq_getElem h]; simp
theorem jk_next (sep : List UInt8) (xs : List ByteArray) (k : Nat) (h : k + 1 < xs.length) : jk sep xs (k + 1 + 1) = jk sep xs (k + 1) ++ sep ++ xs[k + 1].data.toList := by
  rw [jk, if_pos (by omega), List.getD, List.getElem?_eq_getElem h]; rfl

set_option maxHeartbeats 1000000 in
theorem Joined_any (A : Option Addr) (c : Nat) (xs : List ByteArray) (sep : ByteArray) (w : World) (B : Nat) (ho : OS w B (.slice A xs.length c) xs) (hj : (Lib.join (dl xs) sep.data.toList).length ≤ 140737488355320) :
    Calls Tryd.prog 67 #[.slice A xs.length c, .string sep] w fun e w' => e = .returned (.string (str (Lib.join (dl xs) sep.data.toList))) ∧ w = w' := by
  have HO := Lib.hid ho
  have hmx := ho.len_max
  rw [← jk_all] at hj
  have hmono : Hid (∀ k, k ≤ xs.length → (jk sep.data.toList xs k).length ≤ 140737488355320) := fun k hk => Nat.le_trans (jk_mono _ _ k _ hk) hj
  clear ho hj
  go_enter Tryd.func67, Tryd.ntmps67
  go_wp2_with fail
  go_loop [5, 6] (fun v i => ∃ k : Nat, k ≤ xs.length ∧ i = .int .i64 k ∧ v = .string (str (jk sep.data.toList xs k))) (fun _ i => xs.length - (intOf i).toNat)
  case atStart => exact ⟨0, by omega, rfl, rfl⟩
  case round =>
    obtain ⟨k, hk, rfl, rfl⟩ := hrel
    by_cases hlt : k < xs.length
    · obtain ⟨g, rfl, _, _, hnc, hc⟩ := HO.out.at_ (by omega)
      have hcell := hc k hlt
      clear hc
      rcases k with _ | k
      · have hJ := jk_first sep.data.toList xs hlt
        have hb := hmono.out 1 hlt
        rw [hJ, lst_len] at hb
        have HJ := Lib.hid hJ
        clear hJ
        obtain ⟨X, hX⟩ : ∃ X, X = xs[0] := ⟨_, rfl⟩
        rw [← hX] at hcell hb
        have HX := Lib.hid hX
        clear hX
        rw [show jk sep.data.toList xs 0 = [] from rfl]
        go_wp2_with fail
        go_round
        case rel => exact ⟨1, by omega, by go_num, ret_s (by apply lst_inj; rw [HJ.out, lst_mk, HX.out]; simp)⟩
        case measure => simp [intOf]; omega
      · have hJ := jk_next sep.data.toList xs k hlt
        have hb := hmono.out (k + 1 + 1) hlt
        rw [hJ, List.length_append, List.length_append, lst_len, lst_len] at hb
        have HJ := Lib.hid hJ
        clear hJ
        obtain ⟨L, hL⟩ : ∃ L, L = jk sep.data.toList xs (k + 1) := ⟨_, rfl⟩
        obtain ⟨X, hX⟩ : ∃ X, X = xs[k + 1] := ⟨_, rfl⟩
        rw [← hX] at hcell hb
        rw [← hL] at hb ⊢
        have hls : (str L).size + sep.size + X.size ≤ 140737488355320 := by rw [size_str]; exact hb
        have HX := Lib.hid hX
        have HL := Lib.hid hL
        clear hX hL
        go_wp2_with fail
        go_round
        case rel => exact ⟨k + 1 + 1, by omega, by go_num, ret_s (by apply lst_inj; rw [HJ.out, lst_mk, ← HX.out, ← HL.out, lst_app, lst_app, lst_mk])⟩
        case measure => simp [intOf]; omega
    · obtain rfl : k = xs.length := by omega
      have HF := Lib.hid (jk_all sep.data.toList xs)
      obtain ⟨L, hL⟩ : ∃ L, L = jk sep.data.toList xs xs.length := ⟨_, rfl⟩
      rw [← hL]
      have HL := Lib.hid hL
      clear hL
      go_wp2_with fail
      go_ret
      exact ⟨ret_str (by rw [HL.out, HF.out]), rfl⟩

theorem jn_any (A : Option Addr) (c : Nat) (xs : List ByteArray) (t : ByteArray) (w : World) (B : Nat) (ho : OS w B (.slice A xs.length c) xs) (hN : xs.length ≤ 140737488355320) (hj : (Lib.join (dl xs) t.data.toList).length ≤ 140737488355320) :
    Calls Tryd.prog 43 #[.slice A xs.length c, .string t] w fun e w' => e = .returned (.string (str (Lib.join (dl xs) t.data.toList))) ∧ Below w.heap.size w w' := by
  by_cases h0 : xs.length = 0
  · have : xs = [] := List.eq_nil_of_length_eq_zero h0
    subst this
    exact (Tryd.strings_Join_none A c t w).mono fun e w' ⟨h1, h2⟩ => ⟨h1, by rw [h2]; exact Below.refl _ _⟩
  · obtain ⟨g, rfl, _, hg, hc, hcell⟩ := ho.at_ (by omega)
    exact Tryd.strings_Join g 0 c xs t w (fun j x hx => by
      rw [Nat.zero_add]
      obtain ⟨hj, rfl⟩ := List.getElem?_eq_some_iff.1 hx
      exact hcell j hj) hg (by omega) hc (Nat.le_trans hj (by decide))
end Go.Proofs.YthfolopnjmkllaaDoor
