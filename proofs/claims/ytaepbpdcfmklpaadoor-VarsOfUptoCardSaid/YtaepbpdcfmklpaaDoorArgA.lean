/- Arguments (P33, P34), plainly. Walks: args.Form, wickref.Form. -/
import Derived.Test.YtaepbpdcfmklpaaDoorUrlE
import Derived.Test.YtaepbpdcfmklpaaDoorCut
import Derived.Test.YtaepbpdcfmklpaaDoorSpA
import Derived.Test.YtaepbpdcfmklpaaDoorPrA
import Derived.Test.YtaepbpdcfmklpaaDoorTrm
namespace Go.Proofs.YtaepbpdcfmklpaaDoor
open Go.RowKit
set_option linter.unusedVariables false
set_option linter.unusedSimpArgs false

def eqB : ByteArray := ⟨#[61]⟩
def fdF (x : ByteArray) : Fd := ⟨str (decL urlF (cutS x eqB).1.data.toList), str (decL urlF (cutS x eqB).2.1.data.toList)⟩
def keepF (x : ByteArray) : List Fd := if x.size = 0 then [] else [fdF x]
/-- what is kept of a list, by the limit -/
noncomputable def limE (most : Int) (L : List Fd) : Int := if max most 0 < (L.length : Int) then 2 else 0
noncomputable def limR (most : Int) (L : List Fd) : List Fd := if max most 0 < (L.length : Int) then [] else L
theorem lim_many {most : Int} {L : List Fd} (h : max most 0 < (L.length : Int)) : limE most L = 2 ∧ limR most L = [] := ⟨by unfold limE; rw [if_pos h], by unfold limR; rw [if_pos h]⟩
theorem lim_ok {most : Int} {L : List Fd} (h : ¬ max most 0 < (L.length : Int)) : limE most L = 0 ∧ limR most L = L := ⟨by unfold limE; rw [if_neg h], by unfold limR; rw [if_neg h]⟩
def LimRes (most : Int) (L : List Fd) (w : World) (e : Ending) (w' : World) : Prop :=
  ∃ v, e = .returned (.tuple #[v, .int .i64 (limE most L)]) ∧ OP 35 w' w.heap.size v (limR most L) ∧ Below w.heap.size w w'
section
variable {f : ByteArray → List Fd} {X : List ByteArray} {k : Nat}
theorem fm_snoc (h : k < X.length) : (X.take (k + 1)).flatMap f = (X.take k).flatMap f ++ f X[k] := by
  rw [List.take_succ_eq_append_getElem h, List.flatMap_append]; simp
theorem fm_le (h : k < X.length) : ((X.take k).flatMap f).length + (f X[k]).length ≤ (X.flatMap f).length := by
  have e : X = X.take (k + 1) ++ X.drop (k + 1) := (List.take_append_drop _ _).symm
  have : X.flatMap f = (X.take (k + 1)).flatMap f ++ (X.drop (k + 1)).flatMap f := by conv => lhs; rw [e]
                                                                                      rw [List.flatMap_append]
  rw [this, fm_snoc h, List.length_append, List.length_append]; omega
theorem fm_max (h1 : ∀ x, (f x).length ≤ 1) : ∀ X : List ByteArray, (X.flatMap f).length ≤ X.length
  | [] => by simp
  | x :: X => by
    have := h1 x
    have := fm_max h1 X
    rw [List.flatMap_cons, List.length_append, List.length_cons]; omega
theorem fm_take (h1 : ∀ x, (f x).length ≤ 1) : ((X.take k).flatMap f).length ≤ X.length := Nat.le_trans (fm_max h1 _) (by rw [List.length_take]; omega)
end
theorem keepF_le (x : ByteArray) : (keepF x).length ≤ 1 := by unfold keepF; split <;> simp
theorem keepF_no {x : ByteArray} (h : x.size = 0) : keepF x = [] := by unfold keepF; rw [if_pos h]
theorem keepF_yes {x : ByteArray} (h : ¬ x.size = 0) : keepF x = [fdF x] := by unfold keepF; rw [if_neg h]
theorem emp_yes {f : ByteArray} (h : f.size = 0) : f.toList.isEmpty = true := by
  rw [Lib.toList_data]
  have : f.data.toList.length = 0 := by rw [lst_len]; exact h
  cases hh : f.data.toList with
  | nil => rfl
  | cons a t => rw [hh] at this; cases this
theorem emp_no {f : ByteArray} (h : ¬ f.size = 0) : f.toList.isEmpty = false := by
  rw [Lib.toList_data]
  have : f.data.toList.length ≠ 0 := by rw [lst_len]; exact h
  cases hh : f.data.toList with
  | nil => rw [hh] at this; exact absurd rfl this
  | cons a t => rfl
section
variable (s : ByteArray) (most m : Int) (w : World)
set_option maxRecDepth 100000 in
set_option maxHeartbeats 4000000 in
theorem form_any (hs : s.size ≤ 1048576) (hm : w.cell? ⟨0, 0, none⟩ = some (.int .i64 m)) :
    Calls Tryd.prog 19 #[.string s, .int .i64 most] w (LimRes most ((pcs s ⟨#[38]⟩).flatMap keepF) w) := by
  have hmb := World.block_lt_of_cell? _ _ hm
  have HM := Lib.hid fun w' (hb : Below w.heap.size w w') => (hb.cell (p := ⟨0, 0, none⟩) hmb).trans hm
  have C1 := sp_any s ⟨#[38]⟩ m w hs hm (by decide)
  have hle := pcs_le (s := s) (t := ⟨#[38]⟩) (by decide)
  have hmem := pcs_mem ⟨#[38]⟩ (by decide) s.size s (Nat.le_refl _)
  obtain ⟨X, hX⟩ : ∃ X, X = pcs s ⟨#[38]⟩ := ⟨_, rfl⟩
  rw [← hX] at C1 hle hmem ⊢
  have HX := Lib.hid hmem
  have C1 := Lib.hid C1
  unfold LimRes
  obtain ⟨L, hL⟩ : ∃ L, L = X.flatMap keepF := ⟨_, rfl⟩
  rw [← hL]
  have HL := Lib.hid hL
  have hXl : X.length ≤ 1048577 := by omega
  clear hm hmb hX hmem hL hle
  go_enter Tryd.func19, Tryd.ntmps19
  go_wp2_with fail
  refine C1.out.mono ?_
  rintro e w1 ⟨rfl, hOX, hb1⟩
  have HOX := Lib.hid hOX
  have HB1 := Lib.hid hb1
  clear hOX hb1
  go_wp2_with fail
  go_loopw [6, 8, 9, 10, 11, 15] (fun ov _ _ _ _ iv wr => ∃ (k : Nat) (out : List Fd), iv = .int .i64 k ∧ k ≤ X.length ∧ Hid (out = (X.take k).flatMap keepF) ∧ OP 35 wr w1.heap.size ov out ∧ Hid (Below w1.heap.size w1 wr) ∧ (out.length : Int) ≤ max most 0 ∧ out.length ≤ 1048577) (fun _ _ _ _ _ iv _ => X.length - (intOf iv).toNat)
  case atStart => exact ⟨0, [], rfl, Nat.zero_le _, Lib.hid rfl, OP.nil _ _ _, Lib.hid (Below.refl _ _), by simp; omega, by simp⟩
  case round =>
    obtain ⟨k, out, rfl, hk, HO, ho, HB, hol, hoz⟩ := hrel
    obtain ⟨A, c, rfl⟩ := ho.form
    have HOP := Lib.hid ho
    clear ho
    by_cases hlt : k < X.length
    · obtain ⟨g, eg, hg1, hg2, hg3, hcell⟩ := HOX.out.at_ (by omega)
      injection eg with eg
      injection eg with eg _ _
      subst eg
      have x0 : wr.cell? ⟨w.heap.size, k, none⟩ = some (.string X[k]) := (HB.out.cell (p := ⟨w.heap.size, k, none⟩) hg2).trans (hcell k hlt)
      have hxm := HX.out X[k] (List.getElem_mem hlt)
      have hsn := fm_snoc (f := keepF) hlt
      have hfl := fm_le (f := keepF) hlt
      have hft := fm_take (X := X) (k := k + 1) keepF_le
      rw [← HL.out, ← HO.out] at hfl
      rw [← HO.out] at hsn
      obtain ⟨x, hx⟩ : ∃ x, x = X[k] := ⟨_, rfl⟩
      rw [← hx] at x0 hxm hsn hfl
      clear hcell hx
      have hxz : x.size ≤ 1048576 := by omega
      by_cases h0 : x.size = 0
      · have e0 := emp_yes h0
        have HO2 : Hid (out = (X.take (k + 1)).flatMap keepF) := Lib.hid (by rw [hsn, keepF_no h0, List.append_nil])
        clear hsn hfl hft h0
        go_wp2_with fail
        go_roundw
        case rel => exact ⟨k + 1, out, by go_num, by omega, HO2, HOP.out, HB, hol, hoz⟩
        case measure => simp [intOf]; omega
      · have e0 := emp_no h0
        rw [keepF_yes h0] at hsn hfl
        rw [List.length_singleton] at hfl
        by_cases hmo : most ≤ (out.length : Int)
        · have HE := Lib.hid (lim_many (most := most) (L := L) (by omega))
          clear hsn hfl hft h0
          go_wp2_with fail
          go_ret2
          exact ⟨.slice none 0 0, by rw [HE.out.1]; rfl, by rw [HE.out.2]; exact OP.nil _ _ _, HB1.out.trans (HB.out.mono HB1.out.size)⟩
        · have C2 := fun w' hb => cut_any x ⟨#[61]⟩ m w' (by omega) (HM.out w' hb)
          have hcs := cutS_size x ⟨#[61]⟩
          have hfd : fdF x = ⟨str (decL urlF (cutS x ⟨#[61]⟩).1.data.toList), str (decL urlF (cutS x ⟨#[61]⟩).2.1.data.toList)⟩ := rfl
          obtain ⟨n0, hn0⟩ : ∃ n, n = (cutS x ⟨#[61]⟩).1 := ⟨_, rfl⟩
          obtain ⟨v0, hv0⟩ : ∃ n, n = (cutS x ⟨#[61]⟩).2.1 := ⟨_, rfl⟩
          obtain ⟨b0, hb0⟩ : ∃ n, n = (cutS x ⟨#[61]⟩).2.2 := ⟨_, rfl⟩
          rw [← hn0, ← hv0, ← hb0] at C2
          rw [← hn0, ← hv0] at hcs hfd
          have C3 := fun w' => urlDecode_any n0 w' (by omega)
          have C4 := fun w' => urlDecode_any v0 w' (by omega)
          obtain ⟨n1, hn1⟩ : ∃ n, n = str (decL urlF n0.data.toList) := ⟨_, rfl⟩
          obtain ⟨v1, hv1⟩ : ∃ n, n = str (decL urlF v0.data.toList) := ⟨_, rfl⟩
          rw [← hn1] at C3
          rw [← hv1] at C4
          rw [← hn1, ← hv1] at hfd
          have HO2 : Hid (out ++ [⟨n1, v1⟩] = (X.take (k + 1)).flatMap keepF) := Lib.hid (by rw [hsn, hfd])
          have hl1 : out.length + 1 ≤ 1048577 := by
            have := congrArg List.length HO2.out
            rw [List.length_append, List.length_singleton] at this; omega
          have C2 := Lib.hid C2
          have C3 := Lib.hid C3
          have C4 := Lib.hid C4
          have HBw := Lib.hid (HB1.out.trans (HB.out.mono HB1.out.size))
          clear hsn hfl hft h0 hn0 hv0 hb0 hn1 hv1 hcs hfd
          go_wp2_with fail
          refine (C2.out _ HBw.out).mono ?_
          rintro e w2 ⟨rfl, q, hw2⟩
          have HB2 : Hid (Below wr.heap.size wr w2) := Lib.hid (by rw [hw2]; exact below_drewN (Below.refl _ _) q)
          clear hw2
          go_wp2_with fail
          refine (C3.out _).mono ?_
          rintro e w3 ⟨rfl, b3⟩
          have HB3 := Lib.hid (HB2.out.trans (b3.mono HB2.out.size))
          clear b3
          go_wp2_with fail
          refine (C4.out _).mono ?_
          rintro e w4 ⟨rfl, b4⟩
          have HB4 := Lib.hid (HB3.out.trans (b4.mono HB3.out.size))
          have HO4 := Lib.hid (HOP.out.kept HB4.out)
          have HBA := Lib.hid (HB.out.trans (HB4.out.mono HB.out.size))
          clear b4
          go_wp2_with (at_builtin; refine wpL_appP infoArg Tryd.underlying28 rfl (.tmp 31) (.tmp 37) rfl HO4.out rfl ⟨n1, v1⟩ rfl rfl (by omega) HBA.out.size ?_; intro v5 w5 ho5 _ hb5)
          have HO5 := Lib.hid ho5
          have HB5 := Lib.hid (HBA.out.trans hb5)
          clear ho5 hb5
          go_wp2_with fail
          go_roundw
          case rel => exact ⟨k + 1, out ++ [⟨n1, v1⟩], by go_num, by omega, HO2, HO5.out, HB5, by rw [List.length_append, List.length_singleton]; omega, by rw [List.length_append, List.length_singleton]; omega⟩
          case measure => simp [intOf]; omega
    · obtain rfl : k = X.length := by omega
      have hLo : L = out := by rw [HL.out, HO.out, List.take_length]
      have HE := Lib.hid (lim_ok (most := most) (L := L) (by rw [hLo]; omega))
      have HLO := Lib.hid hLo
      clear hLo
      go_wp2_with fail
      go_ret2
      exact ⟨.slice A out.length c, by rw [HE.out.1]; rfl, by rw [HE.out.2, HLO.out]; exact HOP.out.mono HB1.out.size, HB1.out.trans (HB.out.mono HB1.out.size)⟩
set_option maxRecDepth 100000 in
set_option maxHeartbeats 4000000 in
theorem rform_any (hs : s.size ≤ 1048576) :
    Calls Tryd.prog 24 #[.string s, .int .i64 most] w (LimRes most ((pcs s ⟨#[38]⟩).flatMap keepF) w) := by
  have C1 := pieces_any s ⟨#[38]⟩ w hs (by decide) (by decide)
  have hle := pcs_le (s := s) (t := ⟨#[38]⟩) (by decide)
  have hmem := pcs_mem ⟨#[38]⟩ (by decide) s.size s (Nat.le_refl _)
  obtain ⟨X, hX⟩ : ∃ X, X = pcs s ⟨#[38]⟩ := ⟨_, rfl⟩
  rw [← hX] at C1 hle hmem ⊢
  have HX := Lib.hid hmem
  have C1 := Lib.hid C1
  unfold LimRes
  obtain ⟨L, hL⟩ : ∃ L, L = X.flatMap keepF := ⟨_, rfl⟩
  rw [← hL]
  have HL := Lib.hid hL
  have hXl : X.length ≤ 1048577 := by omega
  clear hX hmem hL hle
  go_enter Tryd.func24, Tryd.ntmps24
  go_wp2_with fail
  refine C1.out.mono ?_
  rintro e w1 ⟨v, rfl, hOX, hb1⟩
  obtain ⟨AX, cX, rfl⟩ := hOX.form
  have HOX := Lib.hid hOX
  have HB1 := Lib.hid hb1
  have hXc : 0 < X.length → X.length ≤ cX := fun h => (hOX.at_ h).elim fun g hh => hh.2.2.2.1
  have HXC := Lib.hid hXc
  clear hOX hb1 hXc
  go_wp2_with fail
  go_loopw [6, 8, 9, 10, 11] (fun ov iv _ _ _ wr => ∃ (k : Nat) (out : List Fd), iv = .int .i64 k ∧ k ≤ X.length ∧ Hid (out = (X.take k).flatMap keepF) ∧ OP 35 wr w1.heap.size ov out ∧ Hid (Below w1.heap.size w1 wr) ∧ out.length ≤ 1048577) (fun _ iv _ _ _ _ => X.length - (intOf iv).toNat)
  case atStart => exact ⟨0, [], rfl, Nat.zero_le _, Lib.hid rfl, OP.nil _ _ _, Lib.hid (Below.refl _ _), by simp⟩
  case round =>
    obtain ⟨k, out, rfl, hk, HO, ho, HB, hoz⟩ := hrel
    obtain ⟨A, c, rfl⟩ := ho.form
    have HOP := Lib.hid ho
    clear ho
    by_cases hlt : k < X.length
    · obtain ⟨g, rfl, hg1, hg2, hg3, hcell⟩ := HOX.out.at_ (by omega)
      have x0 : wr.cell? ⟨g, k, none⟩ = some (.string X[k]) := (HB.out.cell (p := ⟨g, k, none⟩) hg2).trans (hcell k hlt)
      have hxm := HX.out X[k] (List.getElem_mem hlt)
      have hsn := fm_snoc (f := keepF) hlt
      have hft := fm_take (X := X) (k := k + 1) keepF_le
      rw [← HO.out] at hsn
      obtain ⟨x, hx⟩ : ∃ x, x = X[k] := ⟨_, rfl⟩
      rw [← hx] at x0 hxm hsn
      clear hcell hx
      have hxz : x.size ≤ 1048576 := by omega
      have i1 : (k : Int) < (X.length : Int) := by omega
      by_cases h0 : x.size = 0
      · have e0 := emp_yes h0
        have e1 : (x.toList != []) = false := by rw [bne, show (x.toList == []) = true by rw [← e0]; cases x.toList <;> rfl]; rfl
        have HO2 : Hid (out = (X.take (k + 1)).flatMap keepF) := Lib.hid (by rw [hsn, keepF_no h0, List.append_nil])
        clear hsn hft h0
        go_wp2_with fail
        go_roundw
        case rel => exact ⟨k + 1, out, by go_num, by omega, HO2, HOP.out, HB, hoz⟩
        case measure => simp [intOf]; omega
      · have e0 := emp_no h0
        rw [keepF_yes h0] at hsn
        have C2 := fun w' => rsplit_any x ⟨#[61]⟩ w' (by omega) (by decide)
        have hcs := cutS_size x ⟨#[61]⟩
        have hfd : fdF x = ⟨str (decL urlF (cutS x ⟨#[61]⟩).1.data.toList), str (decL urlF (cutS x ⟨#[61]⟩).2.1.data.toList)⟩ := rfl
        obtain ⟨n0, hn0⟩ : ∃ n, n = (cutS x ⟨#[61]⟩).1 := ⟨_, rfl⟩
        obtain ⟨v0, hv0⟩ : ∃ n, n = (cutS x ⟨#[61]⟩).2.1 := ⟨_, rfl⟩
        obtain ⟨b0, hb0⟩ : ∃ n, n = (cutS x ⟨#[61]⟩).2.2 := ⟨_, rfl⟩
        rw [← hn0, ← hv0, ← hb0] at C2
        rw [← hn0, ← hv0] at hcs hfd
        have C3 := fun w' => UrlDecode_any n0 w' (by omega)
        have C4 := fun w' => UrlDecode_any v0 w' (by omega)
        obtain ⟨n1, hn1⟩ : ∃ n, n = str (decL urlF n0.data.toList) := ⟨_, rfl⟩
        obtain ⟨v1, hv1⟩ : ∃ n, n = str (decL urlF v0.data.toList) := ⟨_, rfl⟩
        rw [← hn1] at C3
        rw [← hv1] at C4
        rw [← hn1, ← hv1] at hfd
        have HO2 : Hid (out ++ [⟨n1, v1⟩] = (X.take (k + 1)).flatMap keepF) := Lib.hid (by rw [hsn, hfd])
        have hl1 : out.length + 1 ≤ 1048577 := by
          have := congrArg List.length HO2.out
          rw [List.length_append, List.length_singleton] at this; omega
        have C2 := Lib.hid C2
        have C3 := Lib.hid C3
        have C4 := Lib.hid C4
        clear hsn hft h0 hn0 hv0 hb0 hn1 hv1 hcs hfd
        go_wp2_with fail
        refine (C2.out _).mono ?_
        rintro e w2 ⟨rfl, q, hw2⟩
        have HB2 : Hid (Below wr.heap.size wr w2) := Lib.hid (by rw [hw2]; exact below_drewN (Below.refl _ _) q)
        clear hw2
        go_wp2_with fail
        refine (C3.out _).mono ?_
        rintro e w3 ⟨rfl, b3⟩
        have HB3 := Lib.hid (HB2.out.trans (b3.mono HB2.out.size))
        clear b3
        go_wp2_with fail
        refine (C4.out _).mono ?_
        rintro e w4 ⟨rfl, b4⟩
        have HB4 := Lib.hid (HB3.out.trans (b4.mono HB3.out.size))
        have HO4 := Lib.hid (HOP.out.kept HB4.out)
        have HBA := Lib.hid (HB.out.trans (HB4.out.mono HB.out.size))
        clear b4
        go_wp2_with (at_builtin; refine wpL_appP infoArg Tryd.underlying28 rfl (.tmp 34) (.tmp 40) rfl HO4.out rfl ⟨n1, v1⟩ rfl rfl (by omega) HBA.out.size ?_; intro v5 w5 ho5 _ hb5)
        have HO5 := Lib.hid ho5
        have HB5 := Lib.hid (HBA.out.trans hb5)
        clear ho5 hb5
        go_wp2_with fail
        go_roundw
        case rel => exact ⟨k + 1, out ++ [⟨n1, v1⟩], by go_num, by omega, HO2, HO5.out, HB5, by rw [List.length_append, List.length_singleton]; omega⟩
        case measure => simp [intOf]; omega
    · obtain rfl : k = X.length := by omega
      have hLo : L = out := by rw [HL.out, HO.out, List.take_length]
      obtain ⟨M, hM⟩ : ∃ M, max most 0 = M := ⟨_, rfl⟩
      have HLO := Lib.hid hLo
      clear hLo
      by_cases hmo : M < (out.length : Int)
      · have HE := Lib.hid (lim_many (most := most) (L := L) (by rw [HLO.out, hM]; exact hmo))
        go_wp2_with fail
        go_ret2
        exact ⟨.slice none 0 0, by rw [HE.out.1]; rfl, by rw [HE.out.2]; exact OP.nil _ _ _, HB1.out.trans (HB.out.mono HB1.out.size)⟩
      · have HE := Lib.hid (lim_ok (most := most) (L := L) (by rw [HLO.out, hM]; exact hmo))
        go_wp2_with fail
        go_ret2
        exact ⟨.slice A out.length c, by rw [HE.out.1]; rfl, by rw [HE.out.2, HLO.out]; exact HOP.out.mono HB1.out.size, HB1.out.trans (HB.out.mono HB1.out.size)⟩
end
end Go.Proofs.YtaepbpdcfmklpaaDoor
