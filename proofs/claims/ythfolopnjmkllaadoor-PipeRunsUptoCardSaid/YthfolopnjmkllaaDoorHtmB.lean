/- Walks: coding.entity. -/
import Derived.Test.YthfolopnjmkllaaDoorHtmA
namespace Go.Proofs.YthfolopnjmkllaaDoor
open Go.RowKit
set_option linter.unusedVariables false
set_option linter.unusedSimpArgs false

theorem lt_size : (ByteArray.mk #[60, 62, 38, 34]).size = 4 := rfl
theorem lt_fin : ∀ k : Fin 4, ((ByteArray.mk #[60, 62, 38, 34])[k.val]'(by rw [lt_size]; exact k.isLt)) = nmB k.val := by decide
theorem lt_at (k : Nat) (h : k < 4) : ((ByteArray.mk #[60, 62, 38, 34])[k]'(by rw [lt_size]; exact h)) = nmB k := lt_fin ⟨k, h⟩
theorem hasPre_any (s p : ByteArray) (t l : List UInt8) (hs : s.data.toList = t) (hl : p.data.toList = l) (w : World) :
    Calls Tryd.prog 78 #[.string s, .string p] w fun e w' => e = .returned (.bool (hp t l)) ∧ w = w' :=
  (Tryd.strings_HasPrefix s p w).mono fun _ _ h => ⟨by rw [h.1, hs, hl]; rfl, h.2.symm⟩
theorem ent_hit {t : List UInt8} {k : Nat} (hk : k < 4) (h : ∀ j, j < k → hp t (nmL j) = false) (h1 : hp t (nmL k) = true) : entF t = (((nmB k).toNat : Int), ((nmL k).length : Int)) := by
  match k, hk with
  | 0, _ => unfold entF; rw [if_pos (show hp t [38, 108, 116, 59] = true from h1)]; rfl
  | 1, _ => unfold entF; rw [if_neg (by rw [show hp t [38, 108, 116, 59] = false from h 0 (by omega)]; decide), if_pos (show hp t [38, 103, 116, 59] = true from h1)]; rfl
  | 2, _ => unfold entF; rw [if_neg (by rw [show hp t [38, 108, 116, 59] = false from h 0 (by omega)]; decide), if_neg (by rw [show hp t [38, 103, 116, 59] = false from h 1 (by omega)]; decide), if_pos (show hp t [38, 97, 109, 112, 59] = true from h1)]; rfl
  | 3, _ => unfold entF; rw [if_neg (by rw [show hp t [38, 108, 116, 59] = false from h 0 (by omega)]; decide), if_neg (by rw [show hp t [38, 103, 116, 59] = false from h 1 (by omega)]; decide), if_neg (by rw [show hp t [38, 97, 109, 112, 59] = false from h 2 (by omega)]; decide), if_pos (show hp t [38, 113, 117, 111, 116, 59] = true from h1)]; rfl
theorem ent_miss {t : List UInt8} (h : ∀ j, j < 4 → hp t (nmL j) = false) : entF t = entT t (ixb (t.take 7) 59) := by
  unfold entF; rw [if_neg (by rw [show hp t [38, 108, 116, 59] = false from h 0 (by omega)]; decide), if_neg (by rw [show hp t [38, 103, 116, 59] = false from h 1 (by omega)]; decide), if_neg (by rw [show hp t [38, 97, 109, 112, 59] = false from h 2 (by omega)]; decide), if_neg (by rw [show hp t [38, 113, 117, 111, 116, 59] = false from h 3 (by omega)]; decide)]
def nmW (w : World) : World := w.alloc (.cells #[.string ⟨#[38, 108, 116, 59]⟩, .string ⟨#[38, 103, 116, 59]⟩, .string ⟨#[38, 97, 109, 112, 59]⟩, .string ⟨#[38, 113, 117, 111, 116, 59]⟩] 9)
theorem nm_cell (w : World) (k : Nat) (h : k < 4) : (nmW w).cell? ⟨w.heap.size, k, none⟩ = some (.string (str (nmL k))) := by
  unfold nmW
  rw [(Blk.new w 9 _).cell k]
  match k, h with
  | 0, _ | 1, _ | 2, _ | 3, _ => rfl
theorem nm_size (k : Nat) (h : k < 4) : (nmL k).length ≤ 6 ∧ 4 ≤ (nmL k).length := by
  match k, h with
  | 0, _ | 1, _ | 2, _ | 3, _ => decide

theorem ixb_bd (l : List UInt8) : -1 ≤ ixb l 59 ∧ (ixb l 59 < l.length) := by
  induction l with
  | nil => exact ⟨by decide, by decide⟩
  | cons b l ih =>
    rw [ixb_semi]
    simp only [List.length_cons]
    split
    · omega
    · split
      · omega
      · omega
theorem ixb_two {t : List UInt8} {E : Int} (hE : ixb (t.take 7) 59 = E) (h0 : ¬ E < 0) (h : hp t [38, 35] = true) : 2 ≤ E := by
  match t with
  | [] => simp [hp_nil] at h
  | [b] => simp [hp_nil, hp_cons] at h
  | b :: c :: r =>
    simp only [hp_cons, hp_end, Bool.and_true, Bool.and_eq_true, beq_iff_eq] at h
    obtain ⟨rfl, rfl⟩ := h
    have h1 := ixb_bd (r.take 5)
    rw [show (38 :: 35 :: r).take 7 = 38 :: 35 :: r.take 5 from rfl, ixb_semi, ixb_semi] at hE
    simp at hE
    split at hE
    · omega
    · split at hE <;> omega

theorem u8_in (n : Int) (h0 : 0 ≤ n) (h1 : n ≤ 255) : IntKind.u8.wrap n = n := by
  simp [IntKind.wrap, IntKind.signed, IntKind.bits]; omega
theorem cutPre_any (s : ByteArray) (p l : List UInt8) (hs : s.data.toList = l) (w : World) :
    Calls Tryd.prog 93 #[.string s, .string (str p)] w fun e w' => e = .returned (.tuple #[.string (str (if hp l p = true then l.drop p.length else l)), .bool (hp l p)]) ∧ w = w' :=
  (Tryd.strings_CutPrefix s (str p) w).mono fun _ _ h => ⟨by rw [h.1, hs, show (str p).data.toList = p from lst_str p]; rfl, h.2.symm⟩
theorem decO_any (s : ByteArray) (w : World) (hs : s.size ≤ maxLen) :
    Calls Tryd.prog 95 #[.string s] w fun e w' => e = .returned (.tuple #[.int .i64 (numN 10 9 s), .int .i64 (numE 10 9 s)]) ∧ w = w' := by
  go_enter Tryd.func95, Tryd.ntmps95
  go_wp2_with (go_at_call 112; refine (number_any s 10 9 _ hs (by omega) (by omega) (by omega) (by omega)).mono ?_; rintro e w' ⟨rfl, rfl⟩)
  go_ret2
  exact ⟨rfl, rfl⟩
theorem hexO_any (s : ByteArray) (w : World) (hs : s.size ≤ maxLen) :
    Calls Tryd.prog 94 #[.string s] w fun e w' => e = .returned (.tuple #[.int .i64 (numN 16 7 s), .int .i64 (numE 16 7 s)]) ∧ w = w' := by
  go_enter Tryd.func94, Tryd.ntmps94
  go_wp2_with (go_at_call 112; refine (number_any s 16 7 _ hs (by omega) (by omega) (by omega) (by omega)).mono ?_; rintro e w' ⟨rfl, rfl⟩)
  go_ret2
  exact ⟨rfl, rfl⟩
theorem numG_long {base : Int} {m : Nat} {l : List UInt8} (h : m < l.length) : numG base m l = false := by
  unfold numG; rw [show decide (l.length ≤ m) = false from decide_eq_false (by omega)]; simp
theorem num_out (base most : Int) (m : Nat) (l : List UInt8) (hb : 2 ≤ base) (hb2 : base ≤ 16) (hl : l.length ≤ m) (hm : (m : Int) ≤ most) :
    ∃ N er, numN base most (str l) = N ∧ numE base most (str l) = er ∧ ((er = 0 ∧ 0 ≤ N ∧ N ≤ 255 ∧ numG base m l = true ∧ numv base l = N) ∨ (er = 0 ∧ 255 < N ∧ numG base m l = false) ∨ (er = 4 ∧ numG base m l = false)) := by
  have hd : (str l).data.toList = l := lst_str l
  cases hg : numB base most (str l) with
  | true =>
    refine ⟨numv base l, 0, by unfold numN; rw [if_pos hg, hd], by unfold numE; rw [if_pos hg], ?_⟩
    unfold numB at hg
    rw [hd, Bool.and_eq_true, Bool.and_eq_true, decide_eq_true_iff, decide_eq_true_iff, size_str] at hg
    have h0 := (numv_bd hb hb2 l hg.1.1).1
    by_cases h : numv base l ≤ 255
    · exact .inl ⟨rfl, h0, h, by unfold numG; rw [hg.1.1, decide_eq_true hg.1.2, decide_eq_true hl, decide_eq_true h]; rfl, rfl⟩
    · exact .inr (.inl ⟨rfl, by omega, by unfold numG; rw [decide_eq_false h]; simp⟩)
  | false =>
    refine ⟨0, 4, by unfold numN; rw [hg]; rfl, by unfold numE; rw [hg]; rfl, .inr (.inr ⟨rfl, ?_⟩)⟩
    unfold numB at hg
    rw [hd, size_str, decide_eq_true (show (l.length : Int) ≤ most by omega), Bool.and_true] at hg
    unfold numG; rw [hg]; rfl

set_option maxHeartbeats 1000000 in
set_option maxRecDepth 100000 in
theorem entity_any (t : ByteArray) (w : World) (ht : t.size ≤ 140737488355328) :
    Calls Tryd.prog 77 #[.string t] w fun e w' => e = .returned (.tuple #[.int .u8 (entF t.data.toList).1, .int .i64 (entF t.data.toList).2]) ∧ Below w.heap.size w w' := by
  have HC := Lib.hid (nm_cell w)
  have HB := Lib.hid (show Below w.heap.size w (nmW w) from (Below.refl _ _).alloc (by omega) _)
  unfold nmW at HC HB
  go_enter Tryd.func77, Tryd.ntmps77
  go_wp2
  obtain ⟨w1, e1⟩ : ∃ w1, w1 = w.alloc (.cells #[.string ⟨#[38, 108, 116, 59]⟩, .string ⟨#[38, 103, 116, 59]⟩, .string ⟨#[38, 97, 109, 112, 59]⟩, .string ⟨#[38, 113, 117, 111, 116, 59]⟩] 9) := ⟨_, rfl⟩
  rw [← e1] at HC HB ⊢
  clear e1
  go_loop [13] (fun i => ∃ k : Nat, k ≤ 4 ∧ i = .int .i64 k ∧ Hid (∀ j, j < k → hp t.data.toList (nmL j) = false)) (fun i => 4 - (intOf i).toNat)
  case atStart => exact ⟨0, by omega, rfl, fun j h => absurd h (by omega)⟩
  case round =>
    obtain ⟨k, hk, rfl, HN⟩ := hrel
    by_cases hkt : k < 4
    · have hc := HC.out k hkt
      have i1 : (0 : Int) ≤ k ∧ (k : Int) < 4 := by omega
      have hsz : ((str (nmL k)).size : Int) = ((nmL k).length : Int) := by rw [size_str]
      cases hv : hp t.data.toList (nmL k) with
      | true =>
        have HE := Lib.hid (ent_hit hkt HN.out hv)
        have HV := Lib.hid hv
        clear hv
        go_wp2_with (go_at_call 78; refine (hasPre_any _ _ t.data.toList (nmL k) rfl (lst_str _) _).mono ?_; rintro e w' ⟨rfl, rfl⟩; rw [HV.out])
        go_ret2
        refine ⟨?_, HB.out⟩
        rw [HE.out]
        show Ending.returned (.tuple #[.int .u8 (((ByteArray.mk #[60, 62, 38, 34])[k]'(by rw [lt_size]; exact hkt)).toNat : Int), .int .i64 ((nmL k).length : Int)]) = _
        rw [lt_at k hkt]
      | false =>
        have HM := Lib.hid (show ∀ j, j < k + 1 → hp t.data.toList (nmL j) = false from fun j h => by
          by_cases e : j = k
          · rw [e]; exact hv
          · exact HN.out j (by omega))
        have HV := Lib.hid hv
        clear hv
        go_wp2_with (go_at_call 78; refine (hasPre_any _ _ t.data.toList (nmL k) rfl (lst_str _) _).mono ?_; rintro e w' ⟨rfl, rfl⟩; rw [HV.out])
        go_round
        case rel => exact ⟨k + 1, by omega, by go_num, HM⟩
        case measure => simp [intOf]; omega
    · have hk4 : k = 4 := by omega
      subst hk4
      have HE := Lib.hid (ent_miss HN.out)
      have h7 : (t.extract 0 (min (t.size : Int) 7).toNat).data.toList = t.data.toList.take 7 := by
        rw [lst_ext, List.drop_zero]
        rcases Nat.le_total 7 t.size with h | h
        · rw [show (min (t.size : Int) 7).toNat = 7 by omega]
        · rw [take_all t h, take_all t (by omega)]
      obtain ⟨E, hE⟩ : ∃ E, ixb (t.data.toList.take 7) 59 = E := ⟨_, rfl⟩
      obtain ⟨b1, b2⟩ := ixb_bd (t.data.toList.take 7)
      rw [hE] at HE b1 b2
      have b4 : E < t.size := by rw [List.length_take, lst_len] at b2; omega
      have b5 : E < 7 := by rw [List.length_take, lst_len] at b2; omega
      clear b2
      by_cases h0 : E < 0
      · have HR := Lib.hid (HE.out.trans (show entT t.data.toList E = (0, 0) from if_pos h0))
        have q0 : decide (E < 0) = true := decide_eq_true h0
        go_wp2_with fail
        refine (indexByte_any _ _ h7 59 _).mono ?_
        rintro e w' ⟨rfl, rfl⟩
        rw [hE]
        clear hE
        go_wp2_with fail
        go_ret2
        exact ⟨by rw [HR.out]; rfl, HB.out⟩
      · have q0 : decide (E < 0) = false := decide_eq_false h0
        cases hv : hp t.data.toList [38, 35] with
        | false =>
          have HR := Lib.hid (HE.out.trans (show entT t.data.toList E = (0, 0) by unfold entT; rw [if_neg h0, hv]; rfl))
          have HV := Lib.hid hv
          clear hv
          go_wp2_with fail
          refine (indexByte_any _ _ h7 59 _).mono ?_
          rintro e w' ⟨rfl, rfl⟩
          rw [hE]
          clear hE
          go_wp2_with (go_at_call 78; refine (hasPre_any _ _ t.data.toList [38, 35] rfl rfl _).mono ?_; rintro e w' ⟨rfl, rfl⟩; rw [HV.out])
          go_ret2
          exact ⟨by rw [HR.out]; rfl, HB.out⟩
        | true =>
          have hE2 : 2 ≤ E := ixb_two hE h0 hv
          have HR := Lib.hid (HE.out.trans (show entT t.data.toList E = _ by unfold entT; rw [if_neg h0, if_pos hv]))
          have HV := Lib.hid hv
          clear hv
          go_wp2_with fail
          refine (indexByte_any _ _ h7 59 _).mono ?_
          rintro e w' ⟨rfl, rfl⟩
          rw [hE]
          clear hE
          go_wp2_with (go_at_call 78; refine (hasPre_any _ _ t.data.toList [38, 35] rfl rfl _).mono ?_; rintro e w' ⟨rfl, rfl⟩; rw [HV.out])
          refine (cutPre_any _ [120] _ (lst_ext _ _ _) _).mono ?_
          rintro e w' ⟨rfl, rfl⟩
          obtain ⟨M, hM⟩ : ∃ M, (t.data.toList.take E.toNat).drop 2 = M := ⟨_, rfl⟩
          rw [hM] at HR ⊢
          clear hM
          cases hx : hp M [120] with
          | true =>
            rw [hx] at HR
            rw [if_pos rfl] at HR ⊢
            obtain ⟨h, hh⟩ : ∃ h, M.drop 1 = h := ⟨_, rfl⟩
            rw [hh] at HR
            rw [show ([120] : List UInt8).length = 1 from rfl, hh]
            clear hx hh
            have hz := size_str h
            by_cases hl : h.length ≤ 2
            · have k1 : ((str h).size : Int) ≤ 2 := by omega
              obtain ⟨N, er, hN, her, hc⟩ := num_out 16 7 2 h (by omega) (by omega) hl (by omega)
              rcases hc with ⟨rfl, g1, g2, g3⟩ | ⟨rfl, g1, g3⟩ | ⟨rfl, g3⟩
              · have HS := Lib.hid (HR.out.trans (if_pos g3.1))
                rw [g3.2] at HS
                have j1 : IntKind.u8.wrap N = N := u8_in _ g1 g2
                have j2 : IntKind.i64.wrap (E + 1) = E + 1 := IntWalk.i64_in _ (by omega)
                have j3 : decide (255 < N) = false := decide_eq_false (by omega)
                have HN := Lib.hid hN
                have HQ := Lib.hid her
                clear hN her g3
                go_wp2_with (go_at_call 94; refine (hexO_any _ _ (by rw [size_str]; unfold maxLen; omega)).mono ?_; rintro e w' ⟨rfl, rfl⟩; rw [HN.out, HQ.out])
                go_ret2
                exact ⟨by rw [HS.out]; rfl, HB.out⟩
              · have HS := Lib.hid (HR.out.trans (if_neg (by rw [g3]; decide)))
                have j3 : decide (255 < N) = true := decide_eq_true (by omega)
                have HN := Lib.hid hN
                have HQ := Lib.hid her
                clear hN her g3
                go_wp2_with (go_at_call 94; refine (hexO_any _ _ (by rw [size_str]; unfold maxLen; omega)).mono ?_; rintro e w' ⟨rfl, rfl⟩; rw [HN.out, HQ.out])
                go_ret2
                exact ⟨by rw [HS.out]; rfl, HB.out⟩
              · have HS := Lib.hid (HR.out.trans (if_neg (by rw [g3]; decide)))
                have HN := Lib.hid hN
                have HQ := Lib.hid her
                clear hN her g3
                go_wp2_with (go_at_call 94; refine (hexO_any _ _ (by rw [size_str]; unfold maxLen; omega)).mono ?_; rintro e w' ⟨rfl, rfl⟩; rw [HN.out, HQ.out])
                go_ret2
                exact ⟨by rw [HS.out]; rfl, HB.out⟩
            · have k1 : ¬ ((str h).size : Int) ≤ 2 := by omega
              have HS := Lib.hid (HR.out.trans (if_neg (by rw [numG_long (by omega)]; decide)))
              go_wp2_with fail
              go_ret2
              exact ⟨by rw [HS.out]; rfl, HB.out⟩
          | false =>
            rw [hx] at HR
            rw [if_neg (by decide)] at HR ⊢
            clear hx
            have hz := size_str M
            by_cases hl : M.length ≤ 3
            · have k1 : ((str M).size : Int) ≤ 3 := by omega
              obtain ⟨N, er, hN, her, hc⟩ := num_out 10 9 3 M (by omega) (by omega) hl (by omega)
              rcases hc with ⟨rfl, g1, g2, g3⟩ | ⟨rfl, g1, g3⟩ | ⟨rfl, g3⟩
              · have HS := Lib.hid (HR.out.trans (if_pos g3.1))
                rw [g3.2] at HS
                have j1 : IntKind.u8.wrap N = N := u8_in _ g1 g2
                have j2 : IntKind.i64.wrap (E + 1) = E + 1 := IntWalk.i64_in _ (by omega)
                have j3 : decide (255 < N) = false := decide_eq_false (by omega)
                have HN := Lib.hid hN
                have HQ := Lib.hid her
                clear hN her g3
                go_wp2_with (go_at_call 95; refine (decO_any _ _ (by rw [size_str]; unfold maxLen; omega)).mono ?_; rintro e w' ⟨rfl, rfl⟩; rw [HN.out, HQ.out])
                go_ret2
                exact ⟨by rw [HS.out]; rfl, HB.out⟩
              · have HS := Lib.hid (HR.out.trans (if_neg (by rw [g3]; decide)))
                have j3 : decide (255 < N) = true := decide_eq_true (by omega)
                have HN := Lib.hid hN
                have HQ := Lib.hid her
                clear hN her g3
                go_wp2_with (go_at_call 95; refine (decO_any _ _ (by rw [size_str]; unfold maxLen; omega)).mono ?_; rintro e w' ⟨rfl, rfl⟩; rw [HN.out, HQ.out])
                go_ret2
                exact ⟨by rw [HS.out]; rfl, HB.out⟩
              · have HS := Lib.hid (HR.out.trans (if_neg (by rw [g3]; decide)))
                have HN := Lib.hid hN
                have HQ := Lib.hid her
                clear hN her g3
                go_wp2_with (go_at_call 95; refine (decO_any _ _ (by rw [size_str]; unfold maxLen; omega)).mono ?_; rintro e w' ⟨rfl, rfl⟩; rw [HN.out, HQ.out])
                go_ret2
                exact ⟨by rw [HS.out]; rfl, HB.out⟩
            · have k1 : ¬ ((str M).size : Int) ≤ 3 := by omega
              have HS := Lib.hid (HR.out.trans (if_neg (by rw [numG_long (by omega)]; decide)))
              go_wp2_with fail
              go_ret2
              exact ⟨by rw [HS.out]; rfl, HB.out⟩
end Go.Proofs.YthfolopnjmkllaaDoor
