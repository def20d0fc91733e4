/- Plain law: the entities of HtmlDecode, coding's form and the reference's form. -/
import Derived.Test.YthfolopnjmkllaaDoorUrlE
import Derived.Test.YthfolopnjmkllaaDoorTxtB
import Derived.Test.YthfolopnjmkllaaDoorTrm
namespace Go.Proofs.YthfolopnjmkllaaDoor
open Go.RowKit
set_option linter.unusedVariables false
set_option linter.unusedSimpArgs false

def okc (base : Int) (b : UInt8) : Bool := decide (0 ≤ hexv b.toNat) && decide (hexv b.toNat < base)
theorem digs_cons (base : Int) (b : UInt8) (l : List UInt8) : digs base (b :: l) = (okc base b && digs base l) := by simp [digs, okc]
theorem digs_nil (base : Int) : digs base [] = true := rfl
theorem okc_semi10 : okc 10 59 = false := by decide
theorem okc_semi16 : okc 16 59 = false := by decide
theorem okc_x : okc 10 120 = false := by decide
def numG (base : Int) (most : Nat) (l : List UInt8) : Bool := (digs base l && decide (1 ≤ l.length) && decide (l.length ≤ most)) && decide (numv base l ≤ 255)
def hp (t p : List UInt8) : Bool := Lib.hasPrefix t p
theorem hp_nil (p : UInt8) (q : List UInt8) : hp [] (p :: q) = false := rfl
theorem hp_cons (b p : UInt8) (t q : List UInt8) : hp (b :: t) (p :: q) = (p == b && hp t q) := rfl
theorem hp_end (t : List UInt8) : hp t [] = true := by cases t <;> rfl
theorem ixb_nil (n : Int) : ixb [] n = -1 := rfl
theorem ixb_semi (b : UInt8) (l : List UInt8) : ixb (b :: l) 59 = if b == 59 then 0 else if ixb l 59 == -1 then -1 else ixb l 59 + 1 := rfl
def entT (t : List UInt8) (e : Int) : Int × Int :=
  if e < 0 then (0, 0) else if hp t [38, 35] then
    (if hp ((t.take e.toNat).drop 2) [120] then (if numG 16 2 (((t.take e.toNat).drop 2).drop 1) then (numv 16 (((t.take e.toNat).drop 2).drop 1), e + 1) else (0, 0))
      else (if numG 10 3 ((t.take e.toNat).drop 2) then (numv 10 ((t.take e.toNat).drop 2), e + 1) else (0, 0)))
    else (0, 0)
def entF (t : List UInt8) : Int × Int :=
  if hp t [38, 108, 116, 59] then (60, 4) else if hp t [38, 103, 116, 59] then (62, 4) else if hp t [38, 97, 109, 112, 59] then (38, 5) else if hp t [38, 113, 117, 111, 116, 59] then (34, 6)
  else entT t (ixb (t.take 7) 59)
def candH (base : Int) (f t : List UInt8) (k : Nat) : Bool :=
  hp t f && hp (t.drop (f.length + k)) [59] && (digs base ((t.drop f.length).take k) && decide (numv base ((t.drop f.length).take k) < 256))
def stpH (base : Int) (f t : List UInt8) (acc : Int × Int) : Nat → Int × Int
  | 0 => acc
  | k + 1 => if candH base f t (k + 1) then (numv base ((t.drop f.length).take (k + 1)), ((f.length + (k + 1) + 1 : Nat) : Int)) else stpH base f t acc k
def nmL (k : Nat) : List UInt8 := [[38, 108, 116, 59], [38, 103, 116, 59], [38, 97, 109, 112, 59], [38, 113, 117, 111, 116, 59]].getD k []
def nmB (k : Nat) : UInt8 := [60, 62, 38, 34].getD k 0
def nmH (t : List UInt8) (acc : Int × Int) : Nat → Int × Int
  | 0 => acc
  | k + 1 => if hp t (nmL k) then (((nmB k).toNat : Int), ((nmL k).length : Int)) else nmH t acc k
def refH (t : List UInt8) : Int × Int := stpH 16 [38, 35, 120] t (stpH 10 [38, 35] t (nmH t (((t.getD 0 0).toNat : Int), 1) 4) 3) 2

theorem cand_off {base : Int} {f t : List UInt8} {k : Nat} (h : hp t f = false) : candH base f t k = false := by simp [candH, h]
theorem stp_off {base : Int} {f t : List UInt8} (h : hp t f = false) (acc : Int × Int) (k : Nat) : stpH base f t acc k = acc := by
  induction k with
  | zero => rfl
  | succ k ih => simp [stpH, cand_off h, ih]
theorem nm_four (t : List UInt8) (acc : Int × Int) : nmH t acc 4 = if hp t [38, 113, 117, 111, 116, 59] then (34, 6) else if hp t [38, 97, 109, 112, 59] then (38, 5) else if hp t [38, 103, 116, 59] then (62, 4) else if hp t [38, 108, 116, 59] then (60, 4) else acc := rfl
theorem lt256 (v : Int) : decide (v < 256) = decide (v ≤ 255) := by
  by_cases h : v ≤ 255
  · rw [decide_eq_true h, decide_eq_true (by omega)]
  · rw [decide_eq_false h, decide_eq_false (by omega)]
theorem ref_num (r : List UInt8) (z : Int × Int) : stpH 16 [38, 35, 120] (38 :: 35 :: r) (stpH 10 [38, 35] (38 :: 35 :: r) z 3) 2 =
    if (entT (38 :: 35 :: r) (ixb ((38 :: 35 :: r).take 7) 59)).2 = 0 then z else entT (38 :: 35 :: r) (ixb ((38 :: 35 :: r).take 7) 59) := by
  have sy : ∀ base, okc base 59 = false := by intro base; simp [okc, hexv]
  have sx := okc_x
  rcases r with _ | ⟨a, r⟩
  · simp [entT, stpH, candH, hp_cons, hp_nil, hp_end, ixb_semi, ixb_nil, numG, digs_cons, digs_nil, sy, sx, lt256]
  by_cases ha : a = 59
  · subst ha
    simp [entT, stpH, candH, hp_cons, hp_nil, hp_end, ixb_semi, ixb_nil, numG, digs_cons, digs_nil, sy, sx, lt256]
  have ha1 : (a == 59) = false := beq_eq_false_iff_ne.mpr ha
  have ha2 : (59 == a) = false := beq_eq_false_iff_ne.mpr (Ne.symm ha)
  rcases r with _ | ⟨b, r⟩
  · by_cases hx : a = 120
    · subst hx; simp [entT, stpH, candH, hp_cons, hp_nil, hp_end, ixb_semi, ixb_nil, numG, digs_cons, digs_nil, sy, sx, lt256, ha, ha1, ha2, Ne.symm ha]; try (split <;> simp_all)
    · have hx' := Ne.symm hx; simp [entT, stpH, candH, hp_cons, hp_nil, hp_end, ixb_semi, ixb_nil, numG, digs_cons, digs_nil, sy, sx, lt256, ha, ha1, ha2, Ne.symm ha, hx, hx']; try (split <;> simp_all)
  by_cases hb : b = 59
  · subst hb
    by_cases hx : a = 120
    · subst hx; simp [entT, stpH, candH, hp_cons, hp_nil, hp_end, ixb_semi, ixb_nil, numG, digs_cons, digs_nil, sy, sx, lt256, ha, ha1, ha2, Ne.symm ha]; try (split <;> simp_all)
    · have hx' := Ne.symm hx; simp [entT, stpH, candH, hp_cons, hp_nil, hp_end, ixb_semi, ixb_nil, numG, digs_cons, digs_nil, sy, sx, lt256, ha, ha1, ha2, Ne.symm ha, hx, hx']; try (split <;> simp_all)
  have hb1 : (b == 59) = false := beq_eq_false_iff_ne.mpr hb
  have hb2 : (59 == b) = false := beq_eq_false_iff_ne.mpr (Ne.symm hb)
  rcases r with _ | ⟨c, r⟩
  · by_cases hx : a = 120
    · subst hx; simp [entT, stpH, candH, hp_cons, hp_nil, hp_end, ixb_semi, ixb_nil, numG, digs_cons, digs_nil, sy, sx, lt256, ha, ha1, ha2, Ne.symm ha, hb, hb1, hb2, Ne.symm hb]; try (split <;> simp_all)
    · have hx' := Ne.symm hx; simp [entT, stpH, candH, hp_cons, hp_nil, hp_end, ixb_semi, ixb_nil, numG, digs_cons, digs_nil, sy, sx, lt256, ha, ha1, ha2, Ne.symm ha, hb, hb1, hb2, Ne.symm hb, hx, hx']; try (split <;> simp_all)
  by_cases hc : c = 59
  · subst hc
    by_cases hx : a = 120
    · subst hx; simp [entT, stpH, candH, hp_cons, hp_nil, hp_end, ixb_semi, ixb_nil, numG, digs_cons, digs_nil, sy, sx, lt256, ha, ha1, ha2, Ne.symm ha, hb, hb1, hb2, Ne.symm hb]; try (split <;> simp_all)
    · have hx' := Ne.symm hx; simp [entT, stpH, candH, hp_cons, hp_nil, hp_end, ixb_semi, ixb_nil, numG, digs_cons, digs_nil, sy, sx, lt256, ha, ha1, ha2, Ne.symm ha, hb, hb1, hb2, Ne.symm hb, hx, hx']; try (split <;> simp_all)
  have hc1 : (c == 59) = false := beq_eq_false_iff_ne.mpr hc
  have hc2 : (59 == c) = false := beq_eq_false_iff_ne.mpr (Ne.symm hc)
  rcases r with _ | ⟨d, r⟩
  · by_cases hx : a = 120
    · subst hx; simp [entT, stpH, candH, hp_cons, hp_nil, hp_end, ixb_semi, ixb_nil, numG, digs_cons, digs_nil, sy, sx, lt256, ha, ha1, ha2, Ne.symm ha, hb, hb1, hb2, Ne.symm hb, hc, hc1, hc2, Ne.symm hc]; try (split <;> simp_all)
    · have hx' := Ne.symm hx; simp [entT, stpH, candH, hp_cons, hp_nil, hp_end, ixb_semi, ixb_nil, numG, digs_cons, digs_nil, sy, sx, lt256, ha, ha1, ha2, Ne.symm ha, hb, hb1, hb2, Ne.symm hb, hc, hc1, hc2, Ne.symm hc, hx, hx']; try (split <;> simp_all)
  by_cases hd : d = 59
  · subst hd
    by_cases hx : a = 120
    · subst hx; simp [entT, stpH, candH, hp_cons, hp_nil, hp_end, ixb_semi, ixb_nil, numG, digs_cons, digs_nil, sy, sx, lt256, ha, ha1, ha2, Ne.symm ha, hb, hb1, hb2, Ne.symm hb, hc, hc1, hc2, Ne.symm hc]; try (split <;> simp_all)
    · have hx' := Ne.symm hx; simp [entT, stpH, candH, hp_cons, hp_nil, hp_end, ixb_semi, ixb_nil, numG, digs_cons, digs_nil, sy, sx, lt256, ha, ha1, ha2, Ne.symm ha, hb, hb1, hb2, Ne.symm hb, hc, hc1, hc2, Ne.symm hc, hx, hx']; try (split <;> simp_all)
  have hd1 : (d == 59) = false := beq_eq_false_iff_ne.mpr hd
  have hd2 : (59 == d) = false := beq_eq_false_iff_ne.mpr (Ne.symm hd)
  rcases r with _ | ⟨e, r⟩
  · by_cases hx : a = 120
    · subst hx; simp [entT, stpH, candH, hp_cons, hp_nil, hp_end, ixb_semi, ixb_nil, numG, digs_cons, digs_nil, sy, sx, lt256, ha, ha1, ha2, Ne.symm ha, hb, hb1, hb2, Ne.symm hb, hc, hc1, hc2, Ne.symm hc, hd, hd1, hd2, Ne.symm hd]; try (split <;> simp_all)
    · have hx' := Ne.symm hx; simp [entT, stpH, candH, hp_cons, hp_nil, hp_end, ixb_semi, ixb_nil, numG, digs_cons, digs_nil, sy, sx, lt256, ha, ha1, ha2, Ne.symm ha, hb, hb1, hb2, Ne.symm hb, hc, hc1, hc2, Ne.symm hc, hd, hd1, hd2, Ne.symm hd, hx, hx']; try (split <;> simp_all)
  by_cases he : e = 59
  · subst he
    by_cases hx : a = 120
    · subst hx; simp [entT, stpH, candH, hp_cons, hp_nil, hp_end, ixb_semi, ixb_nil, numG, digs_cons, digs_nil, sy, sx, lt256, ha, ha1, ha2, Ne.symm ha, hb, hb1, hb2, Ne.symm hb, hc, hc1, hc2, Ne.symm hc, hd, hd1, hd2, Ne.symm hd]; try (split <;> simp_all)
    · have hx' := Ne.symm hx; simp [entT, stpH, candH, hp_cons, hp_nil, hp_end, ixb_semi, ixb_nil, numG, digs_cons, digs_nil, sy, sx, lt256, ha, ha1, ha2, Ne.symm ha, hb, hb1, hb2, Ne.symm hb, hc, hc1, hc2, Ne.symm hc, hd, hd1, hd2, Ne.symm hd, hx, hx']; try (split <;> simp_all)
  have he1 : (e == 59) = false := beq_eq_false_iff_ne.mpr he
  have he2 : (59 == e) = false := beq_eq_false_iff_ne.mpr (Ne.symm he)
  by_cases hx : a = 120
  · subst hx; simp [entT, stpH, candH, hp_cons, hp_nil, hp_end, ixb_semi, ixb_nil, numG, digs_cons, digs_nil, sy, sx, lt256, ha, ha1, ha2, Ne.symm ha, hb, hb1, hb2, Ne.symm hb, hc, hc1, hc2, Ne.symm hc, hd, hd1, hd2, Ne.symm hd, he, he1, he2, Ne.symm he]; try (split <;> simp_all)
  · have hx' := Ne.symm hx; simp [entT, stpH, candH, hp_cons, hp_nil, hp_end, ixb_semi, ixb_nil, numG, digs_cons, digs_nil, sy, sx, lt256, ha, ha1, ha2, Ne.symm ha, hb, hb1, hb2, Ne.symm hb, hc, hc1, hc2, Ne.symm hc, hd, hd1, hd2, Ne.symm hd, he, he1, he2, Ne.symm he, hx, hx']; try (split <;> simp_all)
theorem ref_eq (b : UInt8) (r : List UInt8) : refH (b :: r) = if (entF (b :: r)).2 = 0 then ((b.toNat : Int), 1) else entF (b :: r) := by
  unfold refH
  rw [show (b :: r).getD 0 0 = b from rfl, nm_four]
  by_cases h0 : b = 38
  · subst h0
    match r with
    | [] => simp [entF, entT, hp_cons, hp_nil, stpH, candH]
    | c :: r =>
      by_cases h1 : c = 35
      · subst h1
        have e0 : entF (38 :: 35 :: r) = entT (38 :: 35 :: r) (ixb ((38 :: 35 :: r).take 7) 59) := by simp [entF, hp_cons]
        rw [e0]
        have n0 : ∀ acc : Int × Int, (if hp (38 :: 35 :: r) [38, 113, 117, 111, 116, 59] then (34, 6) else if hp (38 :: 35 :: r) [38, 97, 109, 112, 59] then (38, 5) else if hp (38 :: 35 :: r) [38, 103, 116, 59] then (62, 4) else if hp (38 :: 35 :: r) [38, 108, 116, 59] then (60, 4) else acc) = acc := by
          intro acc; simp [hp_cons]
        rw [n0]
        exact ref_num r _
      · have n1 : hp (38 :: c :: r) [38, 35] = false := by simp [hp_cons, Ne.symm h1]
        have n2 : hp (38 :: c :: r) [38, 35, 120] = false := by simp [hp_cons, Ne.symm h1]
        rw [stp_off n2, stp_off n1]
        have ee : entT (38 :: c :: r) (ixb ((38 :: c :: r).take 7) 59) = (0, 0) := by simp [entT, n1]
        unfold entF
        rw [ee]
        simp only [hp_cons]
        by_cases q1 : c = 108
        · subst q1; simp; split <;> simp
        · by_cases q2 : c = 103
          · subst q2; simp; split <;> simp
          · by_cases q3 : c = 97
            · subst q3; simp; split <;> simp
            · by_cases q4 : c = 113
              · subst q4; simp; split <;> simp
              · simp [Ne.symm q1, Ne.symm q2, Ne.symm q3, Ne.symm q4]
  · have n : ∀ p, hp (b :: r) (38 :: p) = false := by intro p; simp [hp_cons, Ne.symm h0]
    rw [stp_off (n _), stp_off (n _)]
    simp [entF, entT, n]
end Go.Proofs.YthfolopnjmkllaaDoor
