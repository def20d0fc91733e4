/- Walks: args.Cookies, wickref.Cookies. -/
import Derived.Test.YtaepbpdcfmklpaaDoorArgA
namespace Go.Proofs.YtaepbpdcfmklpaaDoor
open Go.RowKit
set_option linter.unusedVariables false
set_option linter.unusedSimpArgs false

def ckF (x : ByteArray) : Fd := ⟨(cutS x eqB).1, (cutS x eqB).2.1⟩
def trS (p : ByteArray) : ByteArray := str (trimL p.data.toList)
def keepC (p : ByteArray) : List Fd := if (trS p).size = 0 then [] else [ckF (trS p)]
def cookV (v : ByteArray) : List Fd := (pcs v ⟨#[59]⟩).flatMap keepC
def sumS (vs : List ByteArray) : Nat := (vs.map fun v => v.size + 1).sum
theorem keepC_le (x : ByteArray) : (keepC x).length ≤ 1 := by unfold keepC; split <;> simp
theorem keepC_no {p : ByteArray} (h : (trS p).size = 0) : keepC p = [] := by unfold keepC; rw [if_pos h]
theorem keepC_yes {p : ByteArray} (h : ¬ (trS p).size = 0) : keepC p = [ckF (trS p)] := by unfold keepC; rw [if_neg h]
theorem cookV_le (v : ByteArray) : (cookV v).length ≤ v.size + 1 := Nat.le_trans (fm_max keepC_le _) (pcs_le (by decide))
theorem cook_le : ∀ vs : List ByteArray, (vs.flatMap cookV).length ≤ sumS vs
  | [] => by simp
  | v :: vs => by
    have h1 := cookV_le v
    have h2 := cook_le vs
    unfold sumS at h2 ⊢
    rw [List.flatMap_cons, List.length_append, List.map_cons, List.sum_cons]; omega
theorem sum_mem : ∀ {vs : List ByteArray} {v : ByteArray}, v ∈ vs → v.size + 1 ≤ sumS vs
  | x :: vs, v, h => by
    unfold sumS
    rw [List.map_cons, List.sum_cons]
    rcases List.mem_cons.1 h with rfl | h
    · omega
    · have := sum_mem h; unfold sumS at this; omega
theorem sum_len : ∀ vs : List ByteArray, vs.length ≤ sumS vs
  | [] => by simp
  | x :: vs => by
    have := sum_len vs
    unfold sumS at this ⊢
    rw [List.map_cons, List.sum_cons, List.length_cons]; omega
theorem trS_size (p : ByteArray) : (trS p).size ≤ p.size := by
  have hd : ∀ m : List UInt8, (m.dropWhile wsB).length ≤ m.length := fun m => (List.dropWhile_sublist wsB).length_le
  unfold trS
  rw [size_str]
  unfold trimL rtrimL ltrimL
  have h1 := hd p.data.toList
  have h2 := hd (p.data.toList.dropWhile wsB).reverse
  rw [List.length_reverse] at h2
  rw [lst_len] at h1
  simp only [List.length_reverse]
  omega
/-- strings that came in -/
def StR (w : World) (B : Nat) (A : Option Addr) (cap : Nat) (vs : List ByteArray) : Prop := Reads w B 1 A vs.length (vs.map Value.string) ∧ vs.length ≤ cap ∧ cap ≤ 9223372036854775807 ∧ sumS vs ≤ 1048576
theorem StR.below {w w' : World} {B : Nat} {A : Option Addr} {cap : Nat} {vs : List ByteArray} (h : StR w B A cap vs) (hb : Below B w w') : StR w' B A cap vs := ⟨h.1.below hb, h.2⟩
theorem StR.at_ {w : World} {B : Nat} {A : Option Addr} {cap : Nat} {vs : List ByteArray} (h : StR w B A cap vs) {k : Nat} (hk : k < vs.length) : ∃ ad, A = some ad ∧ ad.block < B ∧ w.cell? (ad.add k) = some (.string vs[k]) ∧ vs[k].size ≤ 1048576 := by
  obtain ⟨ad, u, e, hb, hu, hc⟩ := h.1.at_ hk
  rw [List.getElem?_map, List.getElem?_eq_getElem hk] at hu
  injection hu with hu
  have := sum_mem (List.getElem_mem hk)
  have := h.2.2.2
  exact ⟨ad, e, hb, by rw [hc, ← hu], by omega⟩
/-- pieces in block g beside a slice v that grows -/
structure PX (X : List ByteArray) (g : Nat) (v : Value) (w : World) : Prop where
  lt : g < w.heap.size
  cell : ∀ k (hk : k < X.length), w.cell? ⟨g, k, none⟩ = some (.string X[k])
  off : v.ownBlock ≠ some g
theorem PX.below {X : List ByteArray} {g : Nat} {v : Value} {w w' : World} (h : PX X g v w) (hb : Below w.heap.size w w') : PX X g v w' :=
  ⟨Nat.lt_of_lt_of_le h.lt hb.size, fun k hk => (hb.cell (p := ⟨g, k, none⟩) h.lt).trans (h.cell k hk), h.off⟩
theorem PX.grew {X : List ByteArray} {g : Nat} {v v' : Value} {w w' : World} (h : PX X g v w) (hG : Grew w w' v v') : PX X g v' w' :=
  ⟨Nat.lt_of_lt_of_le h.lt hG.grown.size, fun k hk => (World.cell?_of_block (hG.grown.block g h.lt fun e => h.off e.symm)).trans (h.cell k hk), hG.off h.lt h.off⟩
theorem own_lt {t : TypeId} {w : World} {B : Nat} {v : Value} {l : List Fd} (h : OP t w B v l) : ∀ g, v.ownBlock = some g → g < w.heap.size := fun g hg => (World.ownsRow.lt h g hg).2
section
variable (vs : List ByteArray) (A : Option Addr) (cap : Nat) (most m : Int) (w : World)
set_option maxRecDepth 100000 in
set_option maxHeartbeats 8000000 in
theorem cookies_any (hv : StR w w.heap.size A cap vs) (hm : w.cell? ⟨0, 0, none⟩ = some (.int .i64 m)) :
    Calls Tryd.prog 22 #[.slice A vs.length cap, .int .i64 most] w (LimRes most (vs.flatMap cookV) w) := by
  have hmb := World.block_lt_of_cell? _ _ hm
  have HM := Lib.hid fun w' (hb : Below w.heap.size w w') => (hb.cell (p := ⟨0, 0, none⟩) hmb).trans hm
  have HV := Lib.hid fun w' (hb : Below w.heap.size w w') => hv.below hb
  have hcap1 := hv.2.1
  have hcap2 := hv.2.2.1
  have htot := Nat.le_trans (cook_le vs) hv.2.2.2
  have hvl := Nat.le_trans (sum_len vs) hv.2.2.2
  unfold LimRes
  obtain ⟨L, hL⟩ : ∃ L, L = vs.flatMap cookV := ⟨_, rfl⟩
  rw [← hL] at htot ⊢
  have HL := Lib.hid hL
  clear hv hm hmb hL
  go_enter Tryd.func22, Tryd.ntmps22
  go_wp2_with fail
  go_loopw [6, 8, 10, 11, 12, 13, 16, 23] (fun ov _ _ _ _ _ iv _ wr => ∃ (i : Nat) (out : List Fd), iv = .int .i64 i ∧ i ≤ vs.length ∧ Hid (out = (vs.take i).flatMap cookV) ∧ OP 35 wr w.heap.size ov out ∧ Hid (Below w.heap.size w wr) ∧ (out.length : Int) ≤ max most 0 ∧ out.length ≤ 1048576) (fun _ _ _ _ _ _ iv _ _ => vs.length - (intOf iv).toNat)
  case atStart => exact ⟨0, [], rfl, Nat.zero_le _, Lib.hid rfl, OP.nil _ _ _, Lib.hid (Below.refl _ _), by simp; omega, by simp⟩
  case round =>
    obtain ⟨i, out, rfl, hi, HO, ho, HB, hol, hoz⟩ := hrel
    obtain ⟨A0, c0, rfl⟩ := ho.form
    have HOP := Lib.hid ho
    clear ho
    by_cases hlt : i < vs.length
    · obtain ⟨ad, rfl, hab, x0, hvz⟩ := (HV.out wr HB.out).at_ hlt
      have hsnO := fm_snoc (f := cookV) hlt
      have hflO := fm_le (f := cookV) hlt
      rw [← HO.out, ← HL.out] at hflO
      rw [← HO.out] at hsnO
      obtain ⟨v, hve⟩ : ∃ v, v = vs[i] := ⟨_, rfl⟩
      rw [← hve] at x0 hvz hsnO hflO
      clear hve
      have C1 := sp_any v ⟨#[59]⟩ m wr hvz (HM.out wr HB.out) (by decide)
      have hle := pcs_le (s := v) (t := ⟨#[59]⟩) (by decide)
      have hpos := pcs_pos v ⟨#[59]⟩ (by decide)
      have hmem := pcs_mem ⟨#[59]⟩ (by decide) v.size v (Nat.le_refl _)
      have hck : cookV v = (pcs v ⟨#[59]⟩).flatMap keepC := rfl
      obtain ⟨X, hX⟩ : ∃ X, X = pcs v ⟨#[59]⟩ := ⟨_, rfl⟩
      rw [← hX] at C1 hle hpos hmem hck
      rw [hck] at hsnO hflO
      have HX := Lib.hid hmem
      have C1 := Lib.hid C1
      have HSO := Lib.hid hsnO
      have HFO := Lib.hid hflO
      have hXl : X.length ≤ 1048577 := by omega
      clear hX hmem hck hsnO hflO hle
      go_wp2_with fail
      refine C1.out.mono ?_
      rintro e w1 ⟨rfl, hOX, hb1⟩
      have hpx : PX X wr.heap.size (.slice A0 out.length c0) w1 := by
        obtain ⟨g, eg, hg1, hg2, hg3, hcell⟩ := hOX.at_ hpos
        injection eg with eg
        injection eg with eg _ _
        subst eg
        exact ⟨hg2, hcell, fun e => by have := own_lt HOP.out _ e; omega⟩
      obtain ⟨g, hg⟩ : ∃ g, g = wr.heap.size := ⟨_, rfl⟩
      rw [← hg] at hpx
      have HPX := Lib.hid hpx
      have HO1 := Lib.hid (HOP.out.kept hb1)
      have HB1 := Lib.hid (HB.out.trans (hb1.mono HB.out.size))
      rw [← hg]
      clear hOX hb1 hpx hg
      go_wp2_with fail
      go_loopw [6, 10, 11, 12, 13, 23] (fun ov _ _ _ _ iv wx => ∃ (k : Nat) (o2 : List Fd), iv = .int .i64 k ∧ k ≤ X.length ∧ Hid (o2 = out ++ (X.take k).flatMap keepC) ∧ OP 35 wx w.heap.size ov o2 ∧ Hid (PX X g ov wx) ∧ Hid (Below w.heap.size w wx) ∧ (o2.length : Int) ≤ max most 0 ∧ o2.length ≤ 1048576) (fun _ _ _ _ _ iv _ => X.length - (intOf iv).toNat)
      case atStart => exact ⟨0, out, rfl, Nat.zero_le _, Lib.hid (by simp), HO1.out, HPX, HB1, hol, hoz⟩
      case round =>
        obtain ⟨k, o2, rfl, hk, HO2, ho2, HP2, HB2, hol2, ho2z⟩ := hrel
        obtain ⟨A2, c2, rfl⟩ := ho2.form
        have HOP2 := Lib.hid ho2
        clear ho2
        by_cases hlk : k < X.length
        · have y0 := HP2.out.cell k hlk
          have hpm := HX.out X[k] (List.getElem_mem hlk)
          have hsn := fm_snoc (f := keepC) hlk
          have hfl := fm_le (f := keepC) hlk
          have hoL : o2.length + (keepC X[k]).length ≤ L.length := by
            have h1 := HFO.out
            have h2 := congrArg List.length HO2.out
            rw [List.length_append] at h2; omega
          have hsn2 : out ++ (X.take (k + 1)).flatMap keepC = o2 ++ keepC X[k] := by rw [hsn, ← List.append_assoc, ← HO2.out]
          obtain ⟨p, hp⟩ : ∃ p, p = X[k] := ⟨_, rfl⟩
          rw [← hp] at y0 hpm hsn2 hoL
          clear hsn hfl hp
          have i1 : (k : Int) < (X.length : Int) := by omega
          have CT := fun w' => trim_any p w' (by omega)
          have htz := trS_size p
          obtain ⟨x, hx⟩ : ∃ x, x = trS p := ⟨_, rfl⟩
          have CT := Lib.hid (show ∀ w', Calls Tryd.prog 43 #[.string p] w' fun e w'' => e = .returned (.string x) ∧ w' = w'' by rw [hx]; exact CT)
          have hno := keepC_no (p := p)
          have hyes := keepC_yes (p := p)
          rw [← hx] at htz hno hyes
          have hxz : x.size ≤ 1048576 := by omega
          clear hx htz
          by_cases h0 : x.size = 0
          · have e0 := emp_yes h0
            have HO3 : Hid (o2 = out ++ (X.take (k + 1)).flatMap keepC) := Lib.hid (by rw [hsn2, hno h0, List.append_nil])
            clear hsn2 hoL hno hyes h0
            go_wp2_with fail
            refine (CT.out _).mono ?_
            rintro e w' ⟨rfl, rfl⟩
            go_wp2_with fail
            go_roundw
            case rel => exact ⟨k + 1, o2, by go_num, by omega, HO3, HOP2.out, HP2, HB2, hol2, ho2z⟩
            case measure => simp [intOf]; omega
          · have e0 := emp_no h0
            rw [hyes h0] at hsn2 hoL
            rw [List.length_singleton] at hoL
            by_cases hmo : most ≤ (o2.length : Int)
            · have HE := Lib.hid (lim_many (most := most) (L := L) (by omega))
              clear hsn2 hno hyes h0
              go_wp2_with fail
              refine (CT.out _).mono ?_
              rintro e w' ⟨rfl, rfl⟩
              go_wp2_with fail
              go_ret2
              exact ⟨.slice none 0 0, by rw [HE.out.1]; rfl, by rw [HE.out.2]; exact OP.nil _ _ _, HB2.out⟩
            · have C2 := fun w' hb => cut_any x ⟨#[61]⟩ m w' (by omega) (HM.out w' hb)
              have hcs := cutS_size x ⟨#[61]⟩
              have hfd : ckF x = ⟨(cutS x ⟨#[61]⟩).1, (cutS x ⟨#[61]⟩).2.1⟩ := rfl
              obtain ⟨n0, hn0⟩ : ∃ n, n = (cutS x ⟨#[61]⟩).1 := ⟨_, rfl⟩
              obtain ⟨v0, hv0⟩ : ∃ n, n = (cutS x ⟨#[61]⟩).2.1 := ⟨_, rfl⟩
              obtain ⟨b0, hb0⟩ : ∃ n, n = (cutS x ⟨#[61]⟩).2.2 := ⟨_, rfl⟩
              rw [← hn0, ← hv0, ← hb0] at C2
              rw [← hn0, ← hv0] at hcs hfd
              have HO3 : Hid (o2 ++ [⟨n0, v0⟩] = out ++ (X.take (k + 1)).flatMap keepC) := Lib.hid (by rw [hsn2, hfd])
              have C2 := Lib.hid C2
              clear hsn2 hno hyes h0 hn0 hv0 hb0 hcs hfd
              go_wp2_with fail
              refine (CT.out _).mono ?_
              rintro e w' ⟨rfl, rfl⟩
              go_wp2_with fail
              refine (C2.out _ HB2.out).mono ?_
              rintro e w3 ⟨rfl, q, hw3⟩
              have HB3 : Hid (Below w.heap.size w w3) := Lib.hid (by rw [hw3]; exact below_drewN HB2.out q)
              have hk3 : Below wr.heap.size wr w3 := by rw [hw3]; exact below_drewN (Below.refl _ _) q
              have HO4 := Lib.hid (HOP2.out.kept hk3)
              have HP3 := Lib.hid (HP2.out.below hk3)
              clear hw3 hk3
              go_wp2_with (at_builtin; refine wpL_appP infoArg Tryd.underlying28 rfl (.tmp 41) (.tmp 45) rfl HO4.out rfl ⟨n0, v0⟩ rfl rfl (by omega) HB3.out.size ?_; intro v5 w5 ho5 hG5 hb5)
              have HO5 := Lib.hid ho5
              have HB5 := Lib.hid (HB3.out.trans hb5)
              have HP5 := Lib.hid (HP3.out.grew hG5)
              clear ho5 hb5 hG5
              go_wp2_with fail
              go_roundw
              case rel => exact ⟨k + 1, o2 ++ [⟨n0, v0⟩], by go_num, by omega, HO3, HO5.out, HP5, HB5, by rw [List.length_append, List.length_singleton]; omega, by rw [List.length_append, List.length_singleton]; omega⟩
              case measure => simp [intOf]; omega
        · obtain rfl : k = X.length := by omega
          have HO3 : Hid (o2 = (vs.take (i + 1)).flatMap cookV) := Lib.hid (by rw [HSO.out, HO2.out, List.take_length])
          go_wp2_with fail
          go_roundw
          case rel => exact ⟨i + 1, o2, by go_num, by omega, HO3, HOP2.out, HB2, hol2, ho2z⟩
          case measure => simp [intOf]; omega
    · obtain rfl : i = vs.length := by omega
      have hLo : L = out := by rw [HL.out, HO.out, List.take_length]
      have HLO := Lib.hid hLo
      clear hLo
      have HE := Lib.hid (lim_ok (most := most) (L := L) (by rw [HLO.out]; omega))
      go_wp2_with fail
      go_ret2
      exact ⟨.slice A0 out.length c0, by rw [HE.out.1]; rfl, by rw [HE.out.2, HLO.out]; exact HOP.out, HB.out⟩
set_option maxRecDepth 100000 in
set_option maxHeartbeats 8000000 in
theorem rcookies_any (hv : StR w w.heap.size A cap vs) :
    Calls Tryd.prog 32 #[.slice A vs.length cap, .int .i64 most] w (LimRes most (vs.flatMap cookV) w) := by
  have HV := Lib.hid fun w' (hb : Below w.heap.size w w') => hv.below hb
  have hcap1 := hv.2.1
  have hcap2 := hv.2.2.1
  have htot := Nat.le_trans (cook_le vs) hv.2.2.2
  have hvl := Nat.le_trans (sum_len vs) hv.2.2.2
  unfold LimRes
  obtain ⟨L, hL⟩ : ∃ L, L = vs.flatMap cookV := ⟨_, rfl⟩
  rw [← hL] at htot ⊢
  have HL := Lib.hid hL
  clear hv hL
  go_enter Tryd.func32, Tryd.ntmps32
  go_wp2_with fail
  go_loopw [6, 7, 8, 9, 10, 11, 12, 13] (fun ov iv _ _ _ _ _ _ wr => ∃ (i : Nat) (out : List Fd), iv = .int .i64 i ∧ i ≤ vs.length ∧ Hid (out = (vs.take i).flatMap cookV) ∧ OP 35 wr w.heap.size ov out ∧ Hid (Below w.heap.size w wr) ∧ out.length ≤ 1048576) (fun _ iv _ _ _ _ _ _ _ => vs.length - (intOf iv).toNat)
  case atStart => exact ⟨0, [], rfl, Nat.zero_le _, Lib.hid rfl, OP.nil _ _ _, Lib.hid (Below.refl _ _), by simp⟩
  case round =>
    obtain ⟨i, out, rfl, hi, HO, ho, HB, hoz⟩ := hrel
    obtain ⟨A0, c0, rfl⟩ := ho.form
    have HOP := Lib.hid ho
    clear ho
    by_cases hlt : i < vs.length
    · obtain ⟨ad, rfl, hab, x0, hvz⟩ := (HV.out wr HB.out).at_ hlt
      have hsnO := fm_snoc (f := cookV) hlt
      have hflO := fm_le (f := cookV) hlt
      rw [← HO.out, ← HL.out] at hflO
      rw [← HO.out] at hsnO
      obtain ⟨v, hve⟩ : ∃ v, v = vs[i] := ⟨_, rfl⟩
      rw [← hve] at x0 hvz hsnO hflO
      clear hve
      have C1 := pieces_any v ⟨#[59]⟩ wr hvz (by decide) (by decide)
      have hle := pcs_le (s := v) (t := ⟨#[59]⟩) (by decide)
      have hpos := pcs_pos v ⟨#[59]⟩ (by decide)
      have hmem := pcs_mem ⟨#[59]⟩ (by decide) v.size v (Nat.le_refl _)
      have hck : cookV v = (pcs v ⟨#[59]⟩).flatMap keepC := rfl
      obtain ⟨X, hX⟩ : ∃ X, X = pcs v ⟨#[59]⟩ := ⟨_, rfl⟩
      rw [← hX] at C1 hle hpos hmem hck
      rw [hck] at hsnO hflO
      have HX := Lib.hid hmem
      have C1 := Lib.hid C1
      have HSO := Lib.hid hsnO
      have HFO := Lib.hid hflO
      have hXl : X.length ≤ 1048577 := by omega
      clear hX hmem hck hsnO hflO hle
      go_wp2_with fail
      refine C1.out.mono ?_
      rintro e w1 ⟨vX, rfl, hOX, hb1⟩
      obtain ⟨AX, cX, rfl⟩ := hOX.form
      obtain ⟨g, rfl, hg1, hg2, hg3, hcell⟩ := hOX.at_ hpos
      have hpx : PX X g (.slice A0 out.length c0) w1 := ⟨hg2, hcell, fun e => by have := own_lt HOP.out _ e; omega⟩
      have HPX := Lib.hid hpx
      have HO1 := Lib.hid (HOP.out.kept hb1)
      have HB1 := Lib.hid (HB.out.trans (hb1.mono HB.out.size))
      clear hOX hb1 hpx
      go_wp2_with fail
      go_loopw [6, 9, 10, 11, 12, 13] (fun ov iv _ _ _ _ wx => ∃ (k : Nat) (o2 : List Fd), iv = .int .i64 k ∧ k ≤ X.length ∧ Hid (o2 = out ++ (X.take k).flatMap keepC) ∧ OP 35 wx w.heap.size ov o2 ∧ Hid (PX X g ov wx) ∧ Hid (Below w.heap.size w wx) ∧ o2.length ≤ 1048576) (fun _ iv _ _ _ _ _ => X.length - (intOf iv).toNat)
      case atStart => exact ⟨0, out, rfl, Nat.zero_le _, Lib.hid (by simp), HO1.out, HPX, HB1, hoz⟩
      case round =>
        obtain ⟨k, o2, rfl, hk, HO2, ho2, HP2, HB2, ho2z⟩ := hrel
        obtain ⟨A2, c2, rfl⟩ := ho2.form
        have HOP2 := Lib.hid ho2
        clear ho2
        by_cases hlk : k < X.length
        · have y0 := HP2.out.cell k hlk
          have hpm := HX.out X[k] (List.getElem_mem hlk)
          have hsn := fm_snoc (f := keepC) hlk
          have hfl := fm_le (f := keepC) hlk
          have hoL : o2.length + (keepC X[k]).length ≤ L.length := by
            have h1 := HFO.out
            have h2 := congrArg List.length HO2.out
            rw [List.length_append] at h2; omega
          have hsn2 : out ++ (X.take (k + 1)).flatMap keepC = o2 ++ keepC X[k] := by rw [hsn, ← List.append_assoc, ← HO2.out]
          obtain ⟨p, hp⟩ : ∃ p, p = X[k] := ⟨_, rfl⟩
          rw [← hp] at y0 hpm hsn2 hoL
          clear hsn hfl hp
          have i1 : (k : Int) < (X.length : Int) := by omega
          have CT := fun w' => Trim_any p w' (by omega)
          have htz := trS_size p
          obtain ⟨x, hx⟩ : ∃ x, x = trS p := ⟨_, rfl⟩
          have CT := Lib.hid (show ∀ w', Calls Tryd.prog 29 #[.string p] w' fun e w'' => e = .returned (.string x) ∧ w' = w'' by rw [hx]; exact CT)
          have hno := keepC_no (p := p)
          have hyes := keepC_yes (p := p)
          rw [← hx] at htz hno hyes
          have hxz : x.size ≤ 1048576 := by omega
          clear hx htz
          by_cases h0 : x.size = 0
          · have e0 := emp_yes h0
            have HO3 : Hid (o2 = out ++ (X.take (k + 1)).flatMap keepC) := Lib.hid (by rw [hsn2, hno h0, List.append_nil])
            clear hsn2 hoL hno hyes h0
            go_wp2_with fail
            refine (CT.out _).mono ?_
            rintro e w' ⟨rfl, rfl⟩
            go_wp2_with fail
            go_roundw
            case rel => exact ⟨k + 1, o2, by go_num, by omega, HO3, HOP2.out, HP2, HB2, ho2z⟩
            case measure => simp [intOf]; omega
          · have e0 := emp_no h0
            rw [hyes h0] at hsn2 hoL
            rw [List.length_singleton] at hoL
            have C2 := fun w' => rsplit_any x ⟨#[61]⟩ w' (by omega) (by decide)
            have hcs := cutS_size x ⟨#[61]⟩
            have hfd : ckF x = ⟨(cutS x ⟨#[61]⟩).1, (cutS x ⟨#[61]⟩).2.1⟩ := rfl
            obtain ⟨n0, hn0⟩ : ∃ n, n = (cutS x ⟨#[61]⟩).1 := ⟨_, rfl⟩
            obtain ⟨v0, hv0⟩ : ∃ n, n = (cutS x ⟨#[61]⟩).2.1 := ⟨_, rfl⟩
            obtain ⟨b0, hb0⟩ : ∃ n, n = (cutS x ⟨#[61]⟩).2.2 := ⟨_, rfl⟩
            rw [← hn0, ← hv0, ← hb0] at C2
            rw [← hn0, ← hv0] at hcs hfd
            have HO3 : Hid (o2 ++ [⟨n0, v0⟩] = out ++ (X.take (k + 1)).flatMap keepC) := Lib.hid (by rw [hsn2, hfd])
            have C2 := Lib.hid C2
            clear hsn2 hno hyes h0 hn0 hv0 hb0 hcs hfd
            go_wp2_with fail
            refine (CT.out _).mono ?_
            rintro e w' ⟨rfl, rfl⟩
            go_wp2_with fail
            refine (C2.out _).mono ?_
            rintro e w3 ⟨rfl, q, hw3⟩
            have HB3 : Hid (Below w.heap.size w w3) := Lib.hid (by rw [hw3]; exact below_drewN HB2.out q)
            have hk3 : Below wr.heap.size wr w3 := by rw [hw3]; exact below_drewN (Below.refl _ _) q
            have HO4 := Lib.hid (HOP2.out.kept hk3)
            have HP3 := Lib.hid (HP2.out.below hk3)
            clear hw3 hk3
            go_wp2_with (at_builtin; refine wpL_appP infoArg Tryd.underlying28 rfl (.tmp 44) (.tmp 48) rfl HO4.out rfl ⟨n0, v0⟩ rfl rfl (by omega) HB3.out.size ?_; intro v5 w5 ho5 hG5 hb5)
            have HO5 := Lib.hid ho5
            have HB5 := Lib.hid (HB3.out.trans hb5)
            have HP5 := Lib.hid (HP3.out.grew hG5)
            clear ho5 hb5 hG5
            go_wp2_with fail
            go_roundw
            case rel => exact ⟨k + 1, o2 ++ [⟨n0, v0⟩], by go_num, by omega, HO3, HO5.out, HP5, HB5, by rw [List.length_append, List.length_singleton]; omega⟩
            case measure => simp [intOf]; omega
        · obtain rfl : k = X.length := by omega
          have HO3 : Hid (o2 = (vs.take (i + 1)).flatMap cookV) := Lib.hid (by rw [HSO.out, HO2.out, List.take_length])
          go_wp2_with fail
          go_roundw
          case rel => exact ⟨i + 1, o2, by go_num, by omega, HO3, HOP2.out, HB2, ho2z⟩
          case measure => simp [intOf]; omega
    · obtain rfl : i = vs.length := by omega
      have hLo : L = out := by rw [HL.out, HO.out, List.take_length]
      have HLO := Lib.hid hLo
      clear hLo
      obtain ⟨M, hM⟩ : ∃ M, max most 0 = M := ⟨_, rfl⟩
      by_cases hmo : M < (out.length : Int)
      · have HE := Lib.hid (lim_many (most := most) (L := L) (by rw [HLO.out, hM]; exact hmo))
        go_wp2_with fail
        go_ret2
        exact ⟨.slice none 0 0, by rw [HE.out.1]; rfl, by rw [HE.out.2]; exact OP.nil _ _ _, HB.out⟩
      · have HE := Lib.hid (lim_ok (most := most) (L := L) (by rw [HLO.out, hM]; exact hmo))
        go_wp2_with fail
        go_ret2
        exact ⟨.slice A0 out.length c0, by rw [HE.out.1]; rfl, by rw [HE.out.2, HLO.out]; exact HOP.out, HB.out⟩
end
end Go.Proofs.YtaepbpdcfmklpaaDoor
