/- Lists of nets; walks: nets.List, wickref.Nets, slices.Equal of two of them. (printed by gen_nete.py) -/
import Derived.Test.YtkcncgdgicffhaaDoorGw
import Derived.Test.YtkcncgdgicffhaaDoorGr
namespace Go.Proofs.YtkcncgdgicffhaaDoor
open Go.RowKit
set_option linter.unusedVariables false
set_option linter.unusedSimpArgs false

theorem infoNet : (Tryd.prog.info? 70).map (fun i => (i.zero, i.size, i.bytes)) = some (some (.agg #[.int .u32 0, .int .i64 0]), 2, 16) := by kernel_rfl
def ntFlat (l : List (Nat × Int)) : List Value := l.flatMap fun n => [.int .u32 n.1, .int .i64 n.2]
theorem ntFlat_app (l m : List (Nat × Int)) : ntFlat (l ++ m) = ntFlat l ++ ntFlat m := List.flatMap_append
theorem ntFlat_one (i : Nat × Int) : ntFlat [i] = [.int .u32 i.1, .int .i64 i.2] := by simp [ntFlat]
theorem ntFlat_len (l : List (Nat × Int)) : (ntFlat l).length = l.length * 2 := by
  induction l with
  | nil => rfl
  | cons a l ih => rw [show a :: l = [a] ++ l from rfl, ntFlat_app, List.length_append, ih, ntFlat_one]; simp; omega
theorem ntFlat_get {l : List (Nat × Int)} {k : Nat} {i : Nat × Int} (hk : l[k]? = some i) {j : Nat} (hj : j < 2) : (ntFlat l)[k * 2 + j]? = [Value.int .u32 i.1, Value.int .i64 i.2][j]? := by
  induction l generalizing k with
  | nil => simp at hk
  | cons a l ih =>
    rw [show a :: l = [a] ++ l from rfl, ntFlat_app, ntFlat_one]
    cases k with
    | zero =>
      simp at hk; subst hk
      rw [List.getElem?_append_left (by simp; omega), Nat.zero_mul, Nat.zero_add]
    | succ k =>
      rw [List.getElem?_append_right (by simp; omega)]
      have e : (k + 1) * 2 + j - [Value.int .u32 a.1, Value.int .i64 a.2].length = k * 2 + j := by simp; omega
      rw [e]; exact ih (by simpa using hk)
/-- a slice of nets, of the call's own -/
def ON (w : World) (B : Nat) (v : Value) (l : List (Nat × Int)) : Prop := w.ownsRow B 70 2 v l.length (ntFlat l)
section
variable {w w' : World} {B : Nat} {v v' : Value} {l : List (Nat × Int)}
theorem ON.nil (w : World) (B : Nat) : ON w B (.slice none 0 0) [] := World.ownsRow_nil _ _ _ _
theorem ON.form (h : ON w B v l) : ∃ A c, v = .slice A l.length c := by
  rcases h.2 with ⟨rfl, h2⟩ | ⟨g, c, cur, rfl, _⟩
  · exact ⟨none, 0, by rw [h2]⟩
  · exact ⟨_, _, rfl⟩
theorem ON.drewN (h : ON w B v l) (n : Nat) : ON (w.drewN n) B v l := h
theorem ON.mono {B' : Nat} (h : ON w B v l) (hB : B' ≤ B) : ON w B' v l := by
  refine ⟨h.1, ?_⟩
  rcases h.2 with h2 | ⟨g, cap, cur, e1, e2, e3⟩
  · exact .inl h2
  · exact .inr ⟨g, cap, cur, e1, Nat.le_trans hB e2, e3⟩
theorem ON.kept (h : ON w B v l) (hb : Below w.heap.size w w') : ON w' B v l := by
  refine World.ownsRow.kept (row := none) h ⟨hb.os, hb.tape, hb.output, hb.size, fun k hk _ => hb.block k hk⟩ ?_
  cases v.ownBlock <;> simp
theorem ON.at_ {A : Option Addr} {c : Nat} (h : ON w B (.slice A l.length c) l) {k : Nat} {i : Nat × Int} (hk : l[k]? = some i) : ∃ g, A = some ⟨g, 0, none⟩ ∧ w.cell? ⟨g, k * 2, none⟩ = some (.int .u32 i.1) ∧ w.cell? ⟨g, k * 2 + 1, none⟩ = some (.int .i64 i.2) := by
  have hkl := (List.getElem?_eq_some_iff.1 hk).1
  rcases h.2 with ⟨_, h2⟩ | ⟨g, c', cur, e, hb, hh, h3, h4, h5⟩
  · omega
  · injection e with e1 e2 e3
    subst e1 e3
    refine ⟨g, rfl, ?_, ?_⟩
    · rw [World.ownsRow.cellAt h (k * 2) (by omega)]; have := ntFlat_get hk (show 0 < 2 by omega); simpa using this
    · rw [World.ownsRow.cellAt h (k * 2 + 1) (by omega)]; have := ntFlat_get hk (show 1 < 2 by omega); simpa using this
theorem wpL_appN {ops : Array Oper} {rest : List Oper} {o : Oper} {a : Act} {Q : Exit → Act → World → Prop} (hgd : o.guard = none) (s x : Operand)
    (ho : o.op = .call { callee := .builtin .append, args := #[s, x], argTypes := #[73, 73] })
    (h : ON w B v l) (hs : a.eval s = v) (i : Nat × Int) {N : Nat} (hx : a.eval x = .slice (some ⟨N, 0, none⟩) 1 1) (hN : N = w.heap.size) (hlen : l.length ≤ 1000000000) (hB : B ≤ w.heap.size)
    (hK : ∀ v' w', ON w' B v' (l ++ [i]) → Grew w w' v v' → Below B w w' → wpList Tryd.prog ops Q rest (a.put o.dst v') w') :
    wpList Tryd.prog ops Q (o :: rest) a (w.alloc (.cells #[.int .u32 i.1, .int .i64 i.2] 70)) := by
  subst hN
  obtain ⟨i0, hi0, hz0, hz1, hz2⟩ := info_parts infoNet
  exact wpL_appG (P := Tryd.prog) (Q := Q) (rest := rest) (ops := ops) hgd s x ho Tryd.underlying73 hi0 hz0 hz1 hz2 rfl (by decide) h hs [.int .u32 i.1, .int .i64 i.2] 1 1 hx rfl (by
    intro u hu
    simp only [List.mem_cons, List.not_mem_nil, or_false] at hu
    rcases hu with rfl | rfl <;> rfl) (by unfold maxLen; omega) (by omega) hB fun v' w' h2 h3 => hK v' w' (by unfold ON; rw [List.length_append, ntFlat_app, ntFlat_one]; exact h2) h3 (h3.below hB (own_from h))
end

/-- the nets of a list's parts, plainly -/
def ntsF : List ByteArray → List (Nat × Int) → List (Nat × Int) × Int
  | [], acc => (acc, 0)
  | x :: l, acc => if (netR x).2.2 = 0 then ntsF l (acc ++ [((netR x).1, (netR x).2.1)]) else ([], (netR x).2.2)
def ntsR (s : ByteArray) : List (Nat × Int) × Int := if 30 < (pcs s ⟨#[44]⟩).length then ([], 2) else ntsF (pcs s ⟨#[44]⟩) []
theorem ntsR_large {s : ByteArray} (h : 30 < (pcs s ⟨#[44]⟩).length) : ntsR s = ([], 2) := by unfold ntsR; rw [if_pos h]
theorem ntsR_small {s : ByteArray} (h : ¬ 30 < (pcs s ⟨#[44]⟩).length) : ntsR s = ntsF (pcs s ⟨#[44]⟩) [] := by unfold ntsR; rw [if_neg h]
theorem ntsF_ok {l : List ByteArray} {acc : List (Nat × Int)} {k a : Nat} {b : Int} {x : ByteArray} (hx : l[k]? = some x) (h : netR x = (a, b, 0)) : ntsF (l.drop k) acc = ntsF (l.drop (k + 1)) (acc ++ [(a, b)]) := by
  obtain ⟨hk, rfl⟩ := List.getElem?_eq_some_iff.1 hx
  rw [List.drop_eq_getElem_cons hk, ntsF, h, if_pos rfl]
theorem ntsF_no {l : List ByteArray} {acc : List (Nat × Int)} {k a : Nat} {b e : Int} {x : ByteArray} (hx : l[k]? = some x) (h : netR x = (a, b, e)) (he : e ≠ 0) : ntsF (l.drop k) acc = ([], e) := by
  obtain ⟨hk, rfl⟩ := List.getElem?_eq_some_iff.1 hx
  rw [List.drop_eq_getElem_cons hk, ntsF, h, if_neg he]
def NtsRes (R : List (Nat × Int) × Int) (w : World) (e : Ending) (w' : World) : Prop := ∃ v, e = .returned (.tuple #[v, .int .i64 R.2]) ∧ ON w' w.heap.size v R.1 ∧ Below w.heap.size w w'
theorem netSp (s : ByteArray) (m : Int) (w : World) (hs : s.size ≤ 1048576) (hm : w.cell? ⟨1, 0, none⟩ = some (.int .i64 m)) :
    Calls Tryd.prog 63 #[.string s, .string ⟨#[44]⟩] w fun e w' => ∃ v, e = .returned v ∧ OS w' w.heap.size v (pcs s ⟨#[44]⟩) ∧ Below w.heap.size w w' :=
  (sp_any s ⟨#[44]⟩ m w hs hm (by decide)).mono fun e w' h => ⟨_, h.1, h.2.1, h.2.2⟩
section
variable (s : ByteArray) (m : Int) (w : World)
set_option maxRecDepth 100000 in
set_option maxHeartbeats 4000000 in
theorem netList_any (hs : s.size ≤ 1048576) (hm : w.cell? ⟨1, 0, none⟩ = some (.int .i64 m)) :
    Calls Tryd.prog 35 #[.string s] w (NtsRes (ntsR s) w) := by
  obtain ⟨R, hR⟩ : ∃ R, R = ntsR s := ⟨_, rfl⟩
  rw [← hR]
  have CS := netSp s m w hs hm
  have hlm := pcs_mem ⟨#[44]⟩ (by decide) s.size s (Nat.le_refl _)
  have H1 := Lib.hid fun h => hR.trans (ntsR_large (s := s) h)
  have H2 := Lib.hid fun h => hR.trans (ntsR_small (s := s) h)
  have hl0 : 0 < (pcs s ⟨#[44]⟩).length := pcs_pos _ _ (by decide)
  obtain ⟨l, hl⟩ : ∃ l, l = pcs s ⟨#[44]⟩ := ⟨_, rfl⟩
  rw [← hl] at CS hlm H1 H2 hl0
  have HLM := Lib.hid hlm
  have CS := Lib.hid CS
  have CP := Lib.hid fun x w' (hx : x ∈ l) (hb : Below w.heap.size w w') => netParse_any x m w' (by have := hlm x hx; omega) ((hb.cell (p := ⟨1, 0, none⟩) (World.block_lt_of_cell? _ _ hm)).trans hm)
  clear hR hl hlm
  go_enter Tryd.func35, Tryd.ntmps35
  go_wp2_with fail
  refine CS.out.mono ?_
  rintro e w1 ⟨v1, rfl, ho, b1⟩
  obtain ⟨A0, c0, rfl⟩ := ho.form
  have hBw := ho.mono (Nat.le_refl _)
  obtain ⟨g, rfl, hg0, hg1, hg2, hcell⟩ := ho.at_ hl0
  have HO := Lib.hid ho
  have HB1 := Lib.hid b1
  clear ho b1 CS hBw hcell hg2
  by_cases h30 : 30 < l.length
  · have HR := Lib.hid (H1.out h30)
    have d1 : decide ((30 : Int) < (l.length : Int)) = true := decide_eq_true (by omega)
    have d1' : decide (30 < l.length) = true := decide_eq_true h30
    clear h30
    go_wp2_with fail
    go_ret2
    exact ⟨.slice none 0 0, by rw [HR.out]; rfl, by rw [HR.out]; exact ON.nil _ _, HB1.out⟩
  · have HR := Lib.hid (H2.out h30)
    have d1 : decide ((30 : Int) < (l.length : Int)) = false := decide_eq_false (by omega)
    have d1' : decide (30 < l.length) = false := decide_eq_false h30
    go_wp2_with fail
    go_loopw [5, 17] (fun v u wr => ∃ (k : Nat) (acc : List (Nat × Int)), u = .int .i64 (k : Int) ∧ k ≤ l.length ∧ acc.length ≤ k ∧ ON wr w1.heap.size v acc ∧ Below w1.heap.size w1 wr ∧ Hid (ntsF (l.drop k) acc = R)) (fun _ u _ => l.length - (intOf u).toNat)
    case atStart => exact ⟨0, [], rfl, by omega, by simp, ON.nil _ _, Below.refl _ _, Lib.hid HR.out.symm⟩
    case round =>
      clear HR
      obtain ⟨k, acc, rfl, hk, hak, hn, hb, HF⟩ := hrel
      have HN := Lib.hid hn
      have HB := Lib.hid hb
      obtain ⟨A1, c1, rfl⟩ := hn.form
      by_cases hkl : k < l.length
      · have k1 : (k : Int) < (l.length : Int) := by omega
        obtain ⟨x, hx⟩ : ∃ x, l[k]? = some x := ⟨l[k], List.getElem?_eq_getElem hkl⟩
        obtain ⟨g', hg', _, _, _, hcell⟩ := (HO.out.kept hb).at_ hl0
        injection hg' with hg'
        injection hg' with hg2 hg3 hg4
        subst hg2
        have y0 : wr.cell? ⟨g, k, none⟩ = some (.string x) := by
          have := hcell k hkl
          rw [List.getElem?_eq_getElem hkl] at hx
          injection hx with hx
          rw [this, hx]
        have CX := CP.out x wr (List.mem_of_getElem? hx) (HB1.out.trans (hb.mono HB1.out.size))
        obtain ⟨a, b, er, hre⟩ : ∃ a b er, netR x = (a, b, er) := ⟨_, _, _, rfl⟩
        rw [hre] at CX
        have HX := Lib.hid hx
        have HRE := Lib.hid hre
        have CX := Lib.hid CX
        clear hcell hx hre hn hb
        by_cases he : er = 0
        · subst he
          have HF2 : Hid (ntsF (l.drop (k + 1)) (acc ++ [(a, b)]) = R) := Lib.hid ((ntsF_ok HX.out HRE.out).symm.trans HF.out)
          go_wp2_with fail
          refine CX.out.mono ?_
          rintro e w2 ⟨rfl, b2⟩
          have HN2 := Lib.hid (HN.out.kept b2)
          have hb2 := HB.out.trans (b2.mono HB.out.size)
          have b3 := (Below.refl w2.heap.size w2).alloc (Nat.le_refl _) (.cells #[.int .u32 a, .int .i64 b] 70)
          have HN3 := Lib.hid (HN2.out.kept b3)
          have HB3 := Lib.hid (hb2.trans (b3.mono hb2.size))
          have hk3 := Blk.new w2 70 #[.int .u32 a, .int .i64 b]
          clear b2 hb2 b3
          go_upto_region 9 with fail
          obtain ⟨w3, hw3⟩ : ∃ w3, w2.alloc (.cells #[.int .u32 a, .int .i64 b] 70) = w3 := ⟨_, rfl⟩
          rw [hw3] at HN3 HB3 hk3 ⊢
          have n0 : w3.cell? ⟨w2.heap.size, 0, none⟩ = some (.int .u32 a) := hk3.cell 0
          have n1 : w3.cell? ⟨w2.heap.size, 1, none⟩ = some (.int .i64 b) := hk3.cell 1
          clear hw3 hk3
          go_wp2_with (at_builtin; refine wpL_appN rfl (.tmp 29) (.tmp 31) rfl HN3.out rfl (a, b) rfl rfl (by omega) HB3.out.size ?_; intro v5 w5 ho5 _ hb5)
          have HN5 := Lib.hid ho5
          have HB5 := Lib.hid (HB3.out.trans hb5)
          clear ho5 hb5
          go_wp2_with fail
          go_roundw
          case rel => exact ⟨k + 1, acc ++ [(a, b)], by go_num, by omega, by rw [List.length_append, List.length_singleton]; omega, HN5.out, HB5.out, HF2⟩
          case measure => simp [intOf]; omega
        · have HF2 : Hid (([], er) = R) := Lib.hid ((ntsF_no HX.out HRE.out he).symm.trans HF.out)
          have d2 : (er != 0) = true := by rw [bne_iff_ne]; exact he
          clear he
          go_wp2_with fail
          refine CX.out.mono ?_
          rintro e w2 ⟨rfl, b2⟩
          have hb2 := HB.out.trans (b2.mono HB.out.size)
          have hb3 := HB1.out.trans (hb2.mono HB1.out.size)
          have HBz := Lib.hid (hb3.alloc hb3.size (.cells #[.int .u32 a, .int .i64 b] 70))
          clear b2 hb2 hb3
          go_wp2_with fail
          go_ret2
          exact ⟨.slice none 0 0, by rw [← HF2.out]; rfl, by rw [← HF2.out]; exact ON.nil _ _, HBz.out⟩
      · obtain rfl : k = l.length := by omega
        have HF2 : Hid ((acc, 0) = R) := Lib.hid (by rw [← HF.out, List.drop_length]; rfl)
        clear hn hb
        go_wp2_with fail
        go_ret2
        exact ⟨.slice A1 acc.length c1, by rw [← HF2.out]; rfl, by rw [← HF2.out]; exact HN.out.mono HB1.out.size, HB1.out.trans (HB.out.mono HB1.out.size)⟩
set_option maxRecDepth 100000 in
set_option maxHeartbeats 4000000 in
theorem Nets_any (hs : s.size ≤ 1048576) :
    Calls Tryd.prog 36 #[.string s] w (NtsRes (ntsR s) w) := by
  obtain ⟨R, hR⟩ : ∃ R, R = ntsR s := ⟨_, rfl⟩
  rw [← hR]
  have CS := pieces_any s ⟨#[44]⟩ w hs (by decide) (by decide)
  have hlm := pcs_mem ⟨#[44]⟩ (by decide) s.size s (Nat.le_refl _)
  have H1 := Lib.hid fun h => hR.trans (ntsR_large (s := s) h)
  have H2 := Lib.hid fun h => hR.trans (ntsR_small (s := s) h)
  have hl0 : 0 < (pcs s ⟨#[44]⟩).length := pcs_pos _ _ (by decide)
  obtain ⟨l, hl⟩ : ∃ l, l = pcs s ⟨#[44]⟩ := ⟨_, rfl⟩
  rw [← hl] at CS hlm H1 H2 hl0
  have HLM := Lib.hid hlm
  have CS := Lib.hid CS
  have CP := Lib.hid fun x w' (hx : x ∈ l) (hb : Below w.heap.size w w') => Net_any x w' (by have := hlm x hx; omega)
  clear hR hl hlm
  go_enter Tryd.func36, Tryd.ntmps36
  go_wp2_with fail
  refine CS.out.mono ?_
  rintro e w1 ⟨v1, rfl, ho, b1⟩
  obtain ⟨A0, c0, rfl⟩ := ho.form
  have hBw := ho.mono (Nat.le_refl _)
  obtain ⟨g, rfl, hg0, hg1, hg2, hcell⟩ := ho.at_ hl0
  have HO := Lib.hid ho
  have HB1 := Lib.hid b1
  clear ho b1 CS hBw hcell hg2
  by_cases h30 : 30 < l.length
  · have HR := Lib.hid (H1.out h30)
    have d1 : decide ((30 : Int) < (l.length : Int)) = true := decide_eq_true (by omega)
    have d1' : decide (30 < l.length) = true := decide_eq_true h30
    clear h30
    go_wp2_with fail
    go_ret2
    exact ⟨.slice none 0 0, by rw [HR.out]; rfl, by rw [HR.out]; exact ON.nil _ _, HB1.out⟩
  · have HR := Lib.hid (H2.out h30)
    have d1 : decide ((30 : Int) < (l.length : Int)) = false := decide_eq_false (by omega)
    have d1' : decide (30 < l.length) = false := decide_eq_false h30
    go_wp2_with fail
    go_loopw [5, 6] (fun v u wr => ∃ (k : Nat) (acc : List (Nat × Int)), u = .int .i64 (k : Int) ∧ k ≤ l.length ∧ acc.length ≤ k ∧ ON wr w1.heap.size v acc ∧ Below w1.heap.size w1 wr ∧ Hid (ntsF (l.drop k) acc = R)) (fun _ u _ => l.length - (intOf u).toNat)
    case atStart => exact ⟨0, [], rfl, by omega, by simp, ON.nil _ _, Below.refl _ _, Lib.hid HR.out.symm⟩
    case round =>
      clear HR
      obtain ⟨k, acc, rfl, hk, hak, hn, hb, HF⟩ := hrel
      have HN := Lib.hid hn
      have HB := Lib.hid hb
      obtain ⟨A1, c1, rfl⟩ := hn.form
      by_cases hkl : k < l.length
      · have k1 : (k : Int) < (l.length : Int) := by omega
        obtain ⟨x, hx⟩ : ∃ x, l[k]? = some x := ⟨l[k], List.getElem?_eq_getElem hkl⟩
        obtain ⟨g', hg', _, _, _, hcell⟩ := (HO.out.kept hb).at_ hl0
        injection hg' with hg'
        injection hg' with hg2 hg3 hg4
        subst hg2
        have y0 : wr.cell? ⟨g, k, none⟩ = some (.string x) := by
          have := hcell k hkl
          rw [List.getElem?_eq_getElem hkl] at hx
          injection hx with hx
          rw [this, hx]
        have CX := CP.out x wr (List.mem_of_getElem? hx) (HB1.out.trans (hb.mono HB1.out.size))
        obtain ⟨a, b, er, hre⟩ : ∃ a b er, netR x = (a, b, er) := ⟨_, _, _, rfl⟩
        rw [hre] at CX
        have HX := Lib.hid hx
        have HRE := Lib.hid hre
        have CX := Lib.hid CX
        clear hcell hx hre hn hb
        by_cases he : er = 0
        · subst he
          have HF2 : Hid (ntsF (l.drop (k + 1)) (acc ++ [(a, b)]) = R) := Lib.hid ((ntsF_ok HX.out HRE.out).symm.trans HF.out)
          go_wp2_with fail
          refine CX.out.mono ?_
          rintro e w2 ⟨rfl, b2⟩
          have HN2 := Lib.hid (HN.out.kept b2)
          have hb2 := HB.out.trans (b2.mono HB.out.size)
          have b3 := (Below.refl w2.heap.size w2).alloc (Nat.le_refl _) (.cells #[.int .u32 a, .int .i64 b] 70)
          have HN3 := Lib.hid (HN2.out.kept b3)
          have HB3 := Lib.hid (hb2.trans (b3.mono hb2.size))
          have hk3 := Blk.new w2 70 #[.int .u32 a, .int .i64 b]
          clear b2 hb2 b3
          go_upto_region 9 with fail
          obtain ⟨w3, hw3⟩ : ∃ w3, w2.alloc (.cells #[.int .u32 a, .int .i64 b] 70) = w3 := ⟨_, rfl⟩
          rw [hw3] at HN3 HB3 hk3 ⊢
          have n0 : w3.cell? ⟨w2.heap.size, 0, none⟩ = some (.int .u32 a) := hk3.cell 0
          have n1 : w3.cell? ⟨w2.heap.size, 1, none⟩ = some (.int .i64 b) := hk3.cell 1
          clear hw3 hk3
          go_wp2_with (at_builtin; refine wpL_appN rfl (.tmp 31) (.tmp 33) rfl HN3.out rfl (a, b) rfl rfl (by omega) HB3.out.size ?_; intro v5 w5 ho5 _ hb5)
          have HN5 := Lib.hid ho5
          have HB5 := Lib.hid (HB3.out.trans hb5)
          clear ho5 hb5
          go_wp2_with fail
          go_roundw
          case rel => exact ⟨k + 1, acc ++ [(a, b)], by go_num, by omega, by rw [List.length_append, List.length_singleton]; omega, HN5.out, HB5.out, HF2⟩
          case measure => simp [intOf]; omega
        · have HF2 : Hid (([], er) = R) := Lib.hid ((ntsF_no HX.out HRE.out he).symm.trans HF.out)
          have d2 : (er != 0) = true := by rw [bne_iff_ne]; exact he
          clear he
          go_wp2_with fail
          refine CX.out.mono ?_
          rintro e w2 ⟨rfl, b2⟩
          have hb2 := HB.out.trans (b2.mono HB.out.size)
          have hb3 := HB1.out.trans (hb2.mono HB1.out.size)
          have HBz := Lib.hid (hb3.alloc hb3.size (.cells #[.int .u32 a, .int .i64 b] 70))
          clear b2 hb2 hb3
          go_wp2_with fail
          go_ret2
          exact ⟨.slice none 0 0, by rw [← HF2.out]; rfl, by rw [← HF2.out]; exact ON.nil _ _, HBz.out⟩
      · obtain rfl : k = l.length := by omega
        have HF2 : Hid ((acc, 0) = R) := Lib.hid (by rw [← HF.out, List.drop_length]; rfl)
        clear hn hb
        go_wp2_with fail
        go_ret2
        exact ⟨.slice A1 acc.length c1, by rw [← HF2.out]; rfl, by rw [← HF2.out]; exact HN.out.mono HB1.out.size, HB1.out.trans (HB.out.mono HB1.out.size)⟩
end
set_option maxHeartbeats 1000000 in
theorem eqNet_any (A A' : Option Addr) (cap cap' : Nat) (l : List (Nat × Int)) (w : World) (B B' : Nat) (hl : l.length ≤ 1000000) (h : ON w B (.slice A l.length cap) l) (h' : ON w B' (.slice A' l.length cap') l) :
    Calls Tryd.prog 37 #[.slice A l.length cap, .slice A' l.length cap'] w fun e w' => e = .returned (.bool true) ∧ ∃ q, w' = w.drewN q := by
  have hb0 : ((l.length : Int) != (l.length : Int)) = false := by simp
  have H := Lib.hid h
  have H' := Lib.hid h'
  clear h h'
  go_enter Tryd.func37, Tryd.ntmps37
  go_wp2_with fail
  go_loopw [13] (fun i wr => ∃ k q : Nat, k ≤ l.length ∧ i = .int .i64 k ∧ wr = w.drewN q) (fun i _ => l.length - (intOf i).toNat)
  case atStart => exact ⟨0, 0, by omega, rfl, rfl⟩
  case round =>
    obtain ⟨k, q, hk, rfl, rfl⟩ := hrel
    by_cases hlt : k < l.length
    · obtain ⟨i, hi⟩ : ∃ i, l[k]? = some i := ⟨l[k], List.getElem?_eq_getElem hlt⟩
      obtain ⟨g, rfl, x0, x1⟩ := H.out.at_ hi
      obtain ⟨g', rfl, y0, y1⟩ := H'.out.at_ hi
      clear hi
      go_wp2_with fail
      go_quiet (fail)
      go_wp2_with fail
      go_roundw
      case rel => exact ⟨k + 1, _, by omega, by go_num, rfl⟩
      case measure => simp [intOf]; omega
    · obtain rfl : k = l.length := by omega
      go_wp2_with fail
      go_ret
      exact ⟨rfl, q, rfl⟩
end Go.Proofs.YtkcncgdgicffhaaDoor
