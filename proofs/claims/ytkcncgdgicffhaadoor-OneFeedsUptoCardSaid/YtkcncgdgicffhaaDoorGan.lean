/- Walk: head.lines. -/
import Derived.Test.YtkcncgdgicffhaaDoorGr
import Derived.Test.YtkcncgdgicffhaaDoorGz
import Derived.Deep.RegionLaw
import Derived.Deep.DeepHandedRow
namespace Go.Proofs.YtkcncgdgicffhaaDoor
open Go.RowKit
set_option linter.unusedVariables false
set_option linter.unusedSimpArgs false

theorem empty_eqB {s : ByteArray} (h : s.size = 0) : s.toList.isEmpty = true := empty_is h
section
variable (s : ByteArray) (m : Int) (w : World)
theorem lines_no (hs : s.size ≤ 1048576) (h : endOk s = false) :
    Calls Tryd.prog 121 #[.string s] w fun e w' => e = .returned (.tuple #[.slice none 0 0, .bool false]) ∧ Below w.heap.size w w' := by
  have C := Lib.hid (cutSuf_no s crlf2 w (by omega) h)
  clear h
  go_enter Tryd.func121, Tryd.ntmps121
  go_wp2_with fail
  refine C.out.mono ?_
  rintro e w1 ⟨rfl, rfl⟩
  go_wp2_with fail
  go_ret2
  exact ⟨rfl, Below.refl _ _⟩
def LnR (s : ByteArray) (w : World) (e : Ending) (w' : World) : Prop :=
  (LinesOk s ∧ e = .returned (.tuple #[.slice (some ⟨w.heap.size, 0, none⟩) (hls s).length (hls s).length, .bool true]) ∧ OS w' w.heap.size (.slice (some ⟨w.heap.size, 0, none⟩) (hls s).length (hls s).length) (hls s) ∧ Below w.heap.size w w')
  ∨ (¬ LinesOk s ∧ e = .returned (.tuple #[.slice none 0 0, .bool false]) ∧ Below w.heap.size w w')
set_option maxHeartbeats 2000000 in
theorem lines_any (hs : s.size ≤ 1048576) (hm : w.cell? ⟨1, 0, none⟩ = some (.int .i64 m)) :
    Calls Tryd.prog 121 #[.string s] w (LnR s w) := by
  cases he : endOk s with
  | false => exact (lines_no s w hs he).mono fun e w' ⟨h1, h2⟩ => .inr ⟨fun k => (by rw [k.1] at he; cases he), h1, h2⟩
  | true =>
    have C := Lib.hid (cutSuf_yes s crlf2 w (by omega) he)
    have CS := Lib.hid (sp_any (s.extract 0 (s.size - crlf2.size)) crlf m w (by rw [ByteArray.size_extract]; omega) hm (by decide))
    have HE := Lib.hid he
    obtain ⟨L, hL⟩ : ∃ L, L = pcs (s.extract 0 (s.size - crlf2.size)) crlf := ⟨_, rfl⟩
    have hL0 : 0 < L.length := by rw [hL]; exact pcs_pos _ _ (by decide)
    have hL1 : L.length ≤ 1048577 := by rw [hL]; have := pcs_le (s := s.extract 0 (s.size - crlf2.size)) (t := crlf) (by decide); rw [ByteArray.size_extract] at this; omega
    rw [← hL] at CS
    have HL : Hid (L = hls s) := hL
    clear hL hm he
    go_enter Tryd.func121, Tryd.ntmps121
    go_wp2_with fail
    refine C.out.mono ?_
    rintro e w1 ⟨rfl, rfl⟩
    go_wp2_with fail
    refine CS.out.mono ?_
    rintro e w1 ⟨rfl, ho, b1⟩
    obtain ⟨g, eg, hg, hgl, _, hcell⟩ := ho.at_ hL0
    injection eg with eg; injection eg with eg
    subst eg
    have HO1 := Lib.hid ho
    have HB1 := Lib.hid b1
    clear ho b1 CS C
    have HC := Lib.hid hcell
    clear hcell
    go_wp2_with fail
    go_loop [19] (fun u => ∃ k : Nat, u = .int .i64 (k : Int) ∧ k ≤ L.length ∧ Hid (∀ x ∈ L.take k, LnOk x)) (fun u => L.length - (intOf u).toNat)
    case atStart => exact ⟨0, rfl, by omega, fun x hx => absurd hx (by simp)⟩
    case round =>
      obtain ⟨k, rfl, hk, HA⟩ := hrel
      by_cases hlk : k < L.length
      · have k1 : (k : Int) < (L.length : Int) := by omega
        obtain ⟨x, hx⟩ : ∃ x, x = L[k] := ⟨_, rfl⟩
        have y0 : w1.cell? ⟨w.heap.size, k, none⟩ = some (.string x) := by rw [hx]; exact HC.out k hlk
        have HX : Hid (x ∈ hls s) := by show _ ∈ _; rw [← HL.out, hx]; exact List.getElem_mem _
        have HT : Hid (L.take (k + 1) = L.take k ++ [x]) := by show _ = _; rw [List.take_succ_eq_append_getElem hlk, hx]
        clear hx
        have C1 := Lib.hid (indexByte_any x x.data.toList rfl 13)
        have C2 := Lib.hid (indexByte_any x x.data.toList rfl 10)
        by_cases h0 : x.size = 0
        · have e0 := empty_is h0
          have HN : Hid (¬ LinesOk s) := fun k => (k.2 x HX.out).1 h0
          clear h0
          go_wp2_with fail
          go_ret2
          exact .inr ⟨HN.out, rfl, HB1.out⟩
        · have e0 := empty_no h0
          obtain ⟨i1, hi1⟩ : ∃ i, i = ixb x.data.toList 13 := ⟨_, rfl⟩
          obtain ⟨i2, hi2⟩ : ∃ i, i = ixb x.data.toList 10 := ⟨_, rfl⟩
          rw [← hi1] at C1
          rw [← hi2] at C2
          have HI : Hid (LnOk x ↔ i1 < 0 ∧ i2 < 0) := by
            show _ ↔ _
            unfold LnOk; rw [← hi1, ← hi2]
            exact ⟨fun h => h.2, fun h => ⟨h0, h⟩⟩
          clear hi1 hi2 h0
          by_cases g1 : i1 < 0
          · have d1 : ¬ 0 ≤ i1 := by omega
            by_cases g2 : i2 < 0
            · have d2 : ¬ 0 ≤ i2 := by omega
              have HA2 : Hid (∀ y ∈ L.take (k + 1), LnOk y) := fun y hy => by
                rw [HT.out, List.mem_append, List.mem_singleton] at hy
                rcases hy with hy | rfl
                · exact HA.out y hy
                · exact HI.out.2 ⟨g1, g2⟩
              go_wp2_with fail
              refine (C1.out _).mono ?_
              rintro e w' ⟨rfl, rfl⟩
              go_wp2_with fail
              refine (C2.out _).mono ?_
              rintro e w' ⟨rfl, rfl⟩
              go_wp2_with fail
              go_round
              case rel => exact ⟨k + 1, by go_num, by omega, HA2⟩
              case measure => simp [intOf]; omega
            · have d2 : 0 ≤ i2 := by omega
              have HN : Hid (¬ LinesOk s) := fun k => g2 (HI.out.1 (k.2 x HX.out)).2
              go_wp2_with fail
              refine (C1.out _).mono ?_
              rintro e w' ⟨rfl, rfl⟩
              go_wp2_with fail
              refine (C2.out _).mono ?_
              rintro e w' ⟨rfl, rfl⟩
              go_wp2_with fail
              go_ret2
              exact .inr ⟨HN.out, rfl, HB1.out⟩
          · have d1 : 0 ≤ i1 := by omega
            have HN : Hid (¬ LinesOk s) := fun k => g1 (HI.out.1 (k.2 x HX.out)).1
            go_wp2_with fail
            refine (C1.out _).mono ?_
            rintro e w' ⟨rfl, rfl⟩
            go_wp2_with fail
            go_ret2
            exact .inr ⟨HN.out, rfl, HB1.out⟩
      · obtain rfl : k = L.length := by omega
        rw [List.take_length] at HA
        have HN : Hid (LinesOk s) := ⟨HE.out, by rw [← HL.out]; exact HA.out⟩
        clear hlk
        go_wp2_with fail
        go_ret2
        exact .inl ⟨HN.out, by rw [← HL.out]; rfl, by rw [← HL.out]; exact HO1.out, HB1.out⟩
end
end Go.Proofs.YtkcncgdgicffhaaDoor

/- A head that a call makes: the result's cells, the head's cells, its fields (walks of head.Parse, wickref.ReadHead and their like). -/
namespace Go.Proofs.YtkcncgdgicffhaaDoor
open Go.RowKit
set_option linter.unusedVariables false
set_option linter.unusedSimpArgs false

/-- the result's cells are still empty -/
structure Hz (w wr : World) : Prop where
  res : Blk wr w.heap.size 24 #[.string { data := #[] }, .string { data := #[] }, .slice none 0 0]
  be : Below w.heap.size w wr
theorem Hz.start (w : World) : Hz w (w.alloc (.cells #[.string { data := #[] }, .string { data := #[] }, .slice none 0 0] 24)) := ⟨Blk.new _ _ _, (Below.refl _ _).alloc (Nat.le_refl _) _⟩
theorem Hz.lt {w wr : World} (h : Hz w wr) : w.heap.size < wr.heap.size := Blk.lt h.res
theorem Hz.kept {w wr wr' : World} (h : Hz w wr) (hb : Below wr.heap.size wr wr') : Hz w wr' := ⟨h.res.below hb h.lt, h.be.trans (hb.mono (Nat.le_of_lt h.lt))⟩
theorem Hz.drewN {w wr : World} (h : Hz w wr) (n : Nat) : Hz w (wr.drewN n) := ⟨h.res, below_drewN h.be n⟩
structure HzF (w wr : World) : Prop where
  r0 : wr.cell? ⟨w.heap.size, 0, none⟩ = some (.string { data := #[] })
  r1 : wr.cell? ⟨w.heap.size, 1, none⟩ = some (.string { data := #[] })
  r2 : wr.cell? ⟨w.heap.size, 2, none⟩ = some (.slice none 0 0)
  f0 : wr.frozen? ⟨w.heap.size, 0, none⟩ = false
  f1 : wr.frozen? ⟨w.heap.size, 1, none⟩ = false
  f2 : wr.frozen? ⟨w.heap.size, 2, none⟩ = false
theorem Hz.facts {w wr : World} (h : Hz w wr) : HzF w wr := ⟨h.res.cell 0, h.res.cell 1, h.res.cell 2, h.res.frozen 0, h.res.frozen 1, h.res.frozen 2⟩
/-- the result is put -/
theorem Hz.put {w wr : World} (h : Hz w wr) (a b c : Value) :
    ∃ wz, wz = ((wr.setCell ⟨w.heap.size, 0, none⟩ a).setCell ⟨w.heap.size, 1, none⟩ b).setCell ⟨w.heap.size, 2, none⟩ c ∧ Below w.heap.size w wz ∧
      wz.cell? ⟨w.heap.size, 0, none⟩ = some a ∧ wz.cell? ⟨w.heap.size, 1, none⟩ = some b ∧ wz.cell? ⟨w.heap.size, 2, none⟩ = some c ∧ (∀ t B v l, w.heap.size < B → OP t wr B v l → OP t wz B v l) := by
  have h1 := ((h.res.set_ 0 a).set_ 1 b).set_ 2 c
  refine ⟨_, rfl, ((h.be.setCell (p := ⟨w.heap.size, 0, none⟩) (Nat.le_refl _) _).setCell (p := ⟨w.heap.size, 1, none⟩) (Nat.le_refl _) _).setCell (p := ⟨w.heap.size, 2, none⟩) (Nat.le_refl _) _, h1.cell 0, h1.cell 1, h1.cell 2, fun t B v l hB ho => ?_⟩
  exact ((ho.store (p := ⟨w.heap.size, 0, none⟩) hB a).store (p := ⟨w.heap.size, 1, none⟩) hB b).store (p := ⟨w.heap.size, 2, none⟩) hB c

/-- a head in the making: block g; u: the fields' cell, v: the fields as they are by now -/
structure Hst (w1 wr : World) (g : Nat) (m t : ByteArray) (u v : Value) (l : List Fd) : Prop where
  hb : Blk wr g 24 #[.string m, .string t, u]
  hg : w1.heap.size ≤ g
  ho : OP 108 wr (g + 1) v l
  be : Below w1.heap.size w1 wr
section
variable {w1 wr wr' : World} {g : Nat} {m t : ByteArray} {u v : Value} {l : List Fd}
theorem Hst.lt (h : Hst w1 wr g m t u v l) : g < wr.heap.size := Blk.lt h.hb
theorem Hst.kept (h : Hst w1 wr g m t u v l) (hb : Below wr.heap.size wr wr') : Hst w1 wr' g m t u v l :=
  ⟨h.hb.below hb h.lt, h.hg, h.ho.kept hb, h.be.trans (hb.mono (Nat.le_trans h.hg (Nat.le_of_lt h.lt)))⟩
theorem Hst.drewN (h : Hst w1 wr g m t u v l) (n : Nat) : Hst w1 (wr.drewN n) g m t u v l := ⟨h.hb, h.hg, h.ho, below_drewN h.be n⟩
theorem Hst.drew (h : Hst w1 wr g m t u v l) : Hst w1 wr.drew g m t u v l := h.drewN 1
theorem Hst.set (h : Hst w1 wr g m t u v l) (x : Value) : Hst w1 (wr.setCell ⟨g, 2, none⟩ x) g m t x v l :=
  ⟨h.hb.set_ 2 x, h.hg, h.ho.store (p := ⟨g, 2, none⟩) (Nat.lt_succ_self _) x, h.be.setCell (p := ⟨g, 2, none⟩) h.hg x⟩
theorem Hst.facts (h : Hst w1 wr g m t u v l) : wr.cell? ⟨g, 0, none⟩ = some (.string m) ∧ wr.cell? ⟨g, 1, none⟩ = some (.string t) ∧ wr.cell? ⟨g, 2, none⟩ = some u ∧ wr.frozen? ⟨g, 2, none⟩ = false :=
  ⟨h.hb.cell 0, h.hb.cell 1, h.hb.cell 2, h.hb.frozen 2⟩
/-- append of a field in a drawn region -/
theorem step_hst {ops : Array Oper} {o : Oper} {a : Act} {K : Act → World → Prop} {Q : Exit → Act → World → Prop} {E : Prop} (hgd : o.guard = none) (p q : Operand)
    (hop : o.op = .call { callee := .builtin .append, args := #[p, q], argTypes := #[22, 22] })
    (hH : Hst w1 wr g m t u v l) (hs : a.eval p = v) (n x : ByteArray)
    (hx : a.eval q = .slice (some ⟨wr.heap.size, 0, none⟩) 1 1) (hlen : l.length ≤ 1000000000)
    (hK : ∀ A' c' w', Hst w1 w' g m t u (.slice A' (l.length + 1) c') (l ++ [⟨n, x⟩]) → K (a.put o.dst (.slice A' (l.length + 1) c')) w') :
    if Region.wanted o (yielded ops a.tmps) = true then Oper.wp Tryd.prog o a (wr.alloc (.cells #[.string n, .string x] 108)) K Q else E := by
  obtain ⟨i0, hi0, hz0, hz1, hz2⟩ := info_parts infoField
  have hB : g + 1 ≤ wr.heap.size := hH.lt
  refine step_appG (P := Tryd.prog) (Q := Q) (ops := ops) hgd p q hop Tryd.underlying22 hi0 hz0 hz1 hz2 rfl (by decide) hH.ho hs [.string n, .string x] 1 1 hx rfl (by
    intro u hu
    simp only [List.mem_cons, List.not_mem_nil, or_false] at hu
    rcases hu with rfl | rfl <;> rfl) (by unfold maxLen; omega) (by omega) hB fun v' w' h2 h3 => ?_
  have h4 : OP 108 w' (g + 1) v' (l ++ [⟨n, x⟩]) := by
    unfold OP; rw [List.length_append, fdFlat_app, fdFlat_one]; exact h2
  have hbl : Below (g + 1) wr w' := h3.below hB (own_from hH.ho)
  obtain ⟨A', c', rfl⟩ := h4.form
  rw [List.length_append, List.length_singleton] at h4 ⊢
  have h5 : OP 108 w' (g + 1) (.slice A' (l.length + 1) c') (l ++ [⟨n, x⟩]) := h4
  exact hK A' c' w' ⟨hH.hb.below hbl (Nat.lt_succ_self _), hH.hg, h5, hH.be.trans (hbl.mono (Nat.le_trans hH.hg (Nat.le_succ _)))⟩
end
end Go.Proofs.YtkcncgdgicffhaaDoor
