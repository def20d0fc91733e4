/- The plain law: a net's text is read as that net. -/
import Derived.Test.YtkcncgdgicffhaaDoorGy
namespace Go.Proofs.YtkcncgdgicffhaaDoor
open Go.RowKit
set_option linter.unusedVariables false
set_option linter.unusedSimpArgs false

section
variable {l r : List UInt8} {c : UInt8}
theorem ixB_none (h : c ∉ l) : Lib.indexByte l c = -1 := by
  induction l with
  | nil => rfl
  | cons b l ih =>
    simp only [List.mem_cons, not_or] at h
    unfold Lib.indexByte
    rw [if_neg (by simp only [beq_iff_eq]; exact fun e => h.1 e.symm), ih h.2]; rfl
theorem ixB_at (h : c ∉ l) : Lib.indexByte (l ++ c :: r) c = (l.length : Int) := by
  induction l with
  | nil => simp [Lib.indexByte]
  | cons b l ih =>
    simp only [List.mem_cons, not_or] at h
    rw [List.cons_append]
    unfold Lib.indexByte
    rw [if_neg (by simp only [beq_iff_eq]; exact fun e => h.1 e.symm), ih h.2, if_neg (by simp only [beq_iff_eq]; omega)]
    simp
theorem ix1 (l : List UInt8) (c : UInt8) : Lib.indexB (str l) ⟨#[c]⟩ = Lib.indexByte l c := by
  show Lib.index (str l).data.toList [c] = _
  rw [Lib.index_one, lst_mk]
theorem ext_lo (l r : List UInt8) : (str (l ++ r)).extract 0 l.length = str l := by
  apply lst_inj; rw [lst_ext, lst_mk, lst_mk]; simp
theorem ext_hi (l r : List UInt8) (c : UInt8) : (str (l ++ c :: r)).extract (l.length + 1) (str (l ++ c :: r)).size = str r := by
  apply lst_inj
  rw [lst_ext, lst_mk, lst_mk, show (str (l ++ c :: r)).size = (l ++ c :: r).length from by show (l ++ c :: r).toArray.size = _; rw [List.size_toArray], List.take_length, show l ++ c :: r = (l ++ [c]) ++ r by simp, show l.length + 1 = (l ++ [c]).length by simp, List.drop_left]
theorem cut1_none (h : c ∉ l) : cutS (str l) ⟨#[c]⟩ = (str l, ⟨#[]⟩, false) := cutS_miss (by rw [ix1, ixB_none h])
theorem cut1_at (h : c ∉ l) : cutS (str (l ++ c :: r)) ⟨#[c]⟩ = (str l, str r, true) := by
  have e := cutS_hit (s := str (l ++ c :: r)) (t := ⟨#[c]⟩) (i := l.length) (by rw [ix1, ixB_at h]) (by
    show l.length + 1 ≤ (l ++ c :: r).toArray.size; rw [List.size_toArray]; simp)
  rw [e, ext_lo]
  show (_, (str (l ++ c :: r)).extract (l.length + 1) _, _) = _
  rw [ext_hi]
theorem pcs1_none (h : c ∉ l) : pcs (str l) ⟨#[c]⟩ = [str l] := pcs_miss (by rw [ix1, ixB_none h])
theorem pcs1_at (h : c ∉ l) : pcs (str (l ++ c :: r)) ⟨#[c]⟩ = str l :: pcs (str r) ⟨#[c]⟩ := by
  rw [pcs_hit (by show 1 ≤ 1; omega) (i := l.length) (by rw [ix1, ixB_at h]), ext_lo]
  show _ :: pcs ((str (l ++ c :: r)).extract (l.length + 1) _) _ = _
  rw [ext_hi]
end
theorem dd_all : ∀ n : Fin 256, smN (dcS n.val) 255 = n.val ∧ (46 : UInt8) ∉ dd n.val ∧ (47 : UInt8) ∉ dd n.val := by decide +kernel
theorem dd_bits : ∀ n : Fin 33, smN (dcS n.val) 32 = n.val := by decide +kernel
def joinP (p q r s : Nat) : List UInt8 := dd p ++ 46 :: (dd q ++ 46 :: (dd r ++ 46 :: dd s))
theorem prA_as (a : Nat) : prA a = str (joinP (a / 16777216 % 256) (a / 65536 % 256) (a / 256 % 256) (a % 256)) := by
  unfold prA
  rw [dl_prL]
  unfold Lib.join joinP
  simp [List.intercalate, List.intersperse]
section
variable {p q r s : Nat} (hp : p < 256) (hq : q < 256) (hr : r < 256) (hs : s < 256)
include hp hq hr hs
theorem joinP_no : (47 : UInt8) ∉ joinP p q r s := by
  have h1 := (dd_all ⟨p, hp⟩).2.2; have h2 := (dd_all ⟨q, hq⟩).2.2; have h3 := (dd_all ⟨r, hr⟩).2.2; have h4 := (dd_all ⟨s, hs⟩).2.2
  unfold joinP
  simp only [List.mem_append, List.mem_cons, not_or]
  exact ⟨h1, by decide, h2, by decide, h3, by decide, h4⟩
theorem joinP_pcs : pcs (str (joinP p q r s)) ⟨#[46]⟩ = [dcS p, dcS q, dcS r, dcS s] := by
  have h1 := (dd_all ⟨p, hp⟩).2.1; have h2 := (dd_all ⟨q, hq⟩).2.1; have h3 := (dd_all ⟨r, hr⟩).2.1; have h4 := (dd_all ⟨s, hs⟩).2.1
  unfold joinP
  rw [pcs1_at h1, pcs1_at h2, pcs1_at h3, pcs1_none h4]; rfl
theorem adr_P : adrF [dcS p, dcS q, dcS r, dcS s] 0 = some (((p * 256 + q) * 256 + r) * 256 + s) := by
  have h1 := (dd_all ⟨p, hp⟩).1; have h2 := (dd_all ⟨q, hq⟩).1; have h3 := (dd_all ⟨r, hr⟩).1; have h4 := (dd_all ⟨s, hs⟩).1
  dsimp only at h1 h2 h3 h4
  simp only [adrF]
  rw [h1, h2, h3, h4, if_neg (by omega), if_neg (by omega), if_neg (by omega), if_neg (by omega)]
  simp
end
theorem adr_back (a : Nat) (ha : a < 4294967296) : ((a / 16777216 % 256 * 256 + a / 65536 % 256) * 256 + a / 256 % 256) * 256 + a % 256 = a := by omega
theorem again_lt {a : Nat} {b : Int} (ha : a < 4294967296) (h0 : 0 ≤ b) (h1 : b < 32) (h : a % 2 ^ (32 - mskB b) = 0) : netR (prA a ++ (⟨#[47]⟩ ++ dcS b.toNat)) = (a, b, 0) := by
  have e : prA a ++ (⟨#[47]⟩ ++ dcS b.toNat) = str (joinP (a / 16777216 % 256) (a / 65536 % 256) (a / 256 % 256) (a % 256) ++ 47 :: dd b.toNat) := by
    apply lst_inj
    rw [prA_as, lst_app, lst_app, lst_mk, lst_mk]
    show _ ++ ([47] ++ (str (dd b.toNat)).data.toList) = _
    rw [lst_mk]; rfl
  have p1 : a / 16777216 % 256 < 256 := by omega
  have p2 : a / 65536 % 256 < 256 := by omega
  have p3 : a / 256 % 256 < 256 := by omega
  have p4 : a % 256 < 256 := by omega
  have hsl : slS (prA a ++ (⟨#[47]⟩ ++ dcS b.toNat)) = (str (joinP (a / 16777216 % 256) (a / 65536 % 256) (a / 256 % 256) (a % 256)), dcS b.toNat, true) := by
    unfold slS; rw [e, cut1_at (joinP_no p1 p2 p3 p4)]; rfl
  have hbt : btS (prA a ++ (⟨#[47]⟩ ++ dcS b.toNat)) = b := by
    unfold btS; rw [hsl]
    show (if true = true then smN (dcS b.toNat) 32 else 32) = b
    rw [if_pos rfl, dd_bits ⟨b.toNat, by omega⟩]
    show ((b.toNat : Nat) : Int) = b
    omega
  have hpt : ptS (prA a ++ (⟨#[47]⟩ ++ dcS b.toNat)) = [dcS (a / 16777216 % 256), dcS (a / 65536 % 256), dcS (a / 256 % 256), dcS (a % 256)] := by
    unfold ptS; rw [hsl]; exact joinP_pcs p1 p2 p3 p4
  have := net_ok (s := prA a ++ (⟨#[47]⟩ ++ dcS b.toNat)) (a := a) (by rw [hbt]; omega) (by rw [hpt]; rfl) (by rw [hpt, adr_P p1 p2 p3 p4, adr_back a ha]) (by rw [hbt]; exact h)
  rw [this, hbt]
theorem again_full {a : Nat} (ha : a < 4294967296) : netR (prA a) = (a, 32, 0) := by
  have p1 : a / 16777216 % 256 < 256 := by omega
  have p2 : a / 65536 % 256 < 256 := by omega
  have p3 : a / 256 % 256 < 256 := by omega
  have p4 : a % 256 < 256 := by omega
  have hsl : slS (prA a) = (str (joinP (a / 16777216 % 256) (a / 65536 % 256) (a / 256 % 256) (a % 256)), ⟨#[]⟩, false) := by
    unfold slS; rw [prA_as, cut1_none (joinP_no p1 p2 p3 p4)]
  have hbt : btS (prA a) = 32 := by
    unfold btS; rw [hsl]; rfl
  have hpt : ptS (prA a) = [dcS (a / 16777216 % 256), dcS (a / 65536 % 256), dcS (a / 256 % 256), dcS (a % 256)] := by
    unfold ptS; rw [hsl]; exact joinP_pcs p1 p2 p3 p4
  have := net_ok (s := prA a) (a := a) (by rw [hbt]; omega) (by rw [hpt]; rfl) (by rw [hpt, adr_P p1 p2 p3 p4, adr_back a ha]) (by rw [hbt]; show a % 2 ^ (32 - mskB 32) = 0; rw [show mskB 32 = 32 from rfl]; simp; omega)
  rw [this, hbt]
/-- whether it names its bits -/
theorem slash_lt {a : Nat} {b : Int} : 0 ≤ Lib.indexByte (prA a ++ (⟨#[47]⟩ ++ dcS b.toNat)).data.toList 47 := by
  have e : (prA a ++ (⟨#[47]⟩ ++ dcS b.toNat)).data.toList = joinP (a / 16777216 % 256) (a / 65536 % 256) (a / 256 % 256) (a % 256) ++ 47 :: dd b.toNat := by
    rw [prA_as, lst_app, lst_app, lst_mk]
    show _ ++ ([47] ++ (str (dd b.toNat)).data.toList) = _
    rw [lst_mk]; rfl
  rw [e, ixB_at (joinP_no (by omega) (by omega) (by omega) (by omega))]
  omega
theorem slash_full {a : Nat} : ¬ 0 ≤ Lib.indexByte (prA a).data.toList 47 := by
  rw [prA_as, lst_mk, ixB_none (joinP_no (by omega) (by omega) (by omega) (by omega))]; decide
end Go.Proofs.YtkcncgdgicffhaaDoor
