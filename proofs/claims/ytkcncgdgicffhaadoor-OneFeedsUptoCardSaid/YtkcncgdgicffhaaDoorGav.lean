/- Walk: one.Feed. -/
import Derived.Test.YtkcncgdgicffhaaDoorGau
namespace Go.Proofs.YtkcncgdgicffhaaDoor
open Go.RowKit
set_option linter.unusedVariables false
set_option linter.unusedSimpArgs false

/-- the boxes: the reader, the bounds, the result (still empty) -/
structure Fe (w : World) (rest : ByteArray) (over H B A : Int) (wr : World) : Prop where
  rd : Blk wr w.heap.size 50 #[.string rest, .int .i64 over]
  bx : Blk wr (w.heap.size + 1) 43 #[.int .i64 H, .int .i64 B, .int .i64 A]
  rs : Blk wr (w.heap.size + 2) 50 #[.string { data := #[] }, .int .i64 0]
  be : Below w.heap.size w wr
structure FeF (w : World) (rest : ByteArray) (over H B A : Int) (wr : World) : Prop where
  r0 : wr.cell? ⟨w.heap.size, 0, none⟩ = some (.string rest)
  r1 : wr.cell? ⟨w.heap.size, 1, none⟩ = some (.int .i64 over)
  b0 : wr.cell? ⟨w.heap.size + 1, 0, none⟩ = some (.int .i64 H)
  b1 : wr.cell? ⟨w.heap.size + 1, 1, none⟩ = some (.int .i64 B)
  b2 : wr.cell? ⟨w.heap.size + 1, 2, none⟩ = some (.int .i64 A)
  s0 : wr.cell? ⟨w.heap.size + 2, 0, none⟩ = some (.string { data := #[] })
  s1 : wr.cell? ⟨w.heap.size + 2, 1, none⟩ = some (.int .i64 0)
  f0 : wr.frozen? ⟨w.heap.size + 2, 0, none⟩ = false
  f1 : wr.frozen? ⟨w.heap.size + 2, 1, none⟩ = false
section
variable {w wr wr' : World} {rest : ByteArray} {over H B A : Int}
theorem Fe.start : Fe w rest over H B A (((w.alloc (.cells #[.string rest, .int .i64 over] 50)).alloc (.cells #[.int .i64 H, .int .i64 B, .int .i64 A] 43)).alloc (.cells #[.string { data := #[] }, .int .i64 0] 50)) := by
  refine ⟨((Blk.new _ _ _).alloc _).alloc _, ?_, ?_, (((Below.refl _ _).alloc (Nat.le_refl _) _).alloc (by simp) _).alloc (by simp; omega) _⟩
  · have := (Blk.new (w.alloc (.cells #[.string rest, .int .i64 over] 50)) 43 #[.int .i64 H, .int .i64 B, .int .i64 A]).alloc (.cells #[.string { data := #[] }, .int .i64 0] 50)
    simpa using this
  · have := Blk.new ((w.alloc (.cells #[.string rest, .int .i64 over] 50)).alloc (.cells #[.int .i64 H, .int .i64 B, .int .i64 A] 43)) 50 #[.string { data := #[] }, .int .i64 0]
    simpa using this
theorem Fe.lt (h : Fe w rest over H B A wr) : w.heap.size + 2 < wr.heap.size := h.rs.lt
theorem Fe.step (h : Fe w rest over H B A wr) (hb : Below wr.heap.size wr wr') : Fe w rest over H B A wr' :=
  ⟨h.rd.below hb h.rd.lt, h.bx.below hb h.bx.lt, h.rs.below hb h.rs.lt, h.be.trans (hb.mono h.be.size)⟩
theorem Fe.grow (h : Fe w rest over H B A wr) (hb : Below (w.heap.size + 3) wr wr') : Fe w rest over H B A wr' :=
  ⟨h.rd.below hb (by omega), h.bx.below hb (by omega), h.rs.below hb (by omega), h.be.trans (hb.mono (by omega))⟩
theorem Fe.facts (h : Fe w rest over H B A wr) : FeF w rest over H B A wr := ⟨h.rd.cell 0, h.rd.cell 1, h.bx.cell 0, h.bx.cell 1, h.bx.cell 2, h.rs.cell 0, h.rs.cell 1, h.rs.frozen 0, h.rs.frozen 1⟩
theorem Fe.put (h : Fe w rest over H B A wr) (a b : Value) :
    ∃ wz, wz = (wr.setCell ⟨w.heap.size + 2, 0, none⟩ a).setCell ⟨w.heap.size + 2, 1, none⟩ b ∧ Below w.heap.size w wz ∧ wz.cell? ⟨w.heap.size + 2, 0, none⟩ = some a ∧ wz.cell? ⟨w.heap.size + 2, 1, none⟩ = some b ∧
      (∀ B' v L, w.heap.size + 2 < B' → RL wr B' v L → RL wz B' v L) := by
  have h1 := (h.rs.set_ 0 a).set_ 1 b
  have hle : w.heap.size ≤ w.heap.size + 2 := by omega
  exact ⟨_, rfl, (h.be.setCell (p := ⟨w.heap.size + 2, 0, none⟩) hle _).setCell (p := ⟨w.heap.size + 2, 1, none⟩) hle _, h1.cell 0, h1.cell 1, fun B' v L hB hl => (hl.store (p := ⟨w.heap.size + 2, 0, none⟩) hB _).store (p := ⟨w.heap.size + 2, 1, none⟩) hB _⟩
end
/-- Feed: the error ahead of all reading -/
def feE (rest s : ByteArray) (over H B A : Int) : Int := if bdE H B A ≠ 0 then bdE H B A else if 65536 < rest.size ∨ 8192 < s.size then 2 else if over ≠ 0 then 8 else 0
/-- what Feed answers: the reader's text, its error, the requests, the error -/
noncomputable def feedR (rest s : ByteArray) (over H B A : Int) : ByteArray × Int × List (Hd × ByteArray) × Int :=
  if feE rest s over H B A ≠ 0 then (rest, over, [], feE rest s over H B A)
  else ((reqsR (rest ++ s) H B).2.1, (reqsR (rest ++ s) H B).2.2, (reqsR (rest ++ s) H B).1, (reqsR (rest ++ s) H B).2.2)
def FeedRes (R : ByteArray × Int × List (Hd × ByteArray) × Int) (w : World) (e : Ending) (w' : World) : Prop :=
  ∃ v L, e = .returned (.tuple #[.agg #[.string R.1, .int .i64 R.2.1], v, .int .i64 R.2.2.2]) ∧ RL w' w.heap.size v L ∧ L.map RC.plain = R.2.2.1 ∧ Below w.heap.size w w'
section
variable (rest s : ByteArray) (over H B A m : Int) (w : World)
set_option maxRecDepth 100000 in
set_option maxHeartbeats 4000000 in
theorem feed_any (hs : s.size ≤ 1048576) (hr : rest.size ≤ 1048576) (hm : w.cell? ⟨1, 0, none⟩ = some (.int .i64 m)) :
    Calls Tryd.prog 25 #[.agg #[.string rest, .int .i64 over], .agg #[.int .i64 H, .int .i64 B, .int .i64 A], .string s] w (FeedRes (feedR rest s over H B A) w) := by
  obtain ⟨W, hW⟩ : ∃ W, ((w.alloc (.cells #[.string rest, .int .i64 over] 50)).alloc (.cells #[.int .i64 H, .int .i64 B, .int .i64 A] 43)).alloc (.cells #[.string { data := #[] }, .int .i64 0] 50) = W := ⟨_, rfl⟩
  have hX : Fe w rest over H B A W := by rw [← hW]; exact Fe.start
  have HM := Lib.hid fun w' (h : Fe w rest over H B A w') => (h.be.cell (p := ⟨1, 0, none⟩) (World.block_lt_of_cell? _ _ hm)).trans hm
  have C1 := check_any H B A W
  obtain ⟨r0, r1, b0, b1, b2, s0, s1, f0, f1⟩ := hX.facts
  have HX := Lib.hid hX
  clear hX hm
  by_cases hz : feE rest s over H B A = 0
  · have hc : bdE H B A = 0 ∧ rest.size ≤ 65536 ∧ s.size ≤ 8192 ∧ over = 0 := by
      unfold feE at hz
      by_cases h1 : bdE H B A = 0
      · rw [if_neg (by simp [h1])] at hz
        by_cases h2 : 65536 < rest.size ∨ 8192 < s.size
        · rw [if_pos h2] at hz; exact absurd hz (by decide)
        · rw [if_neg h2] at hz
          by_cases h3 : over = 0
          · exact ⟨h1, by omega, by omega, h3⟩
          · rw [if_pos h3] at hz; exact absurd hz (by decide)
      · rw [if_pos h1] at hz; exact absurd hz h1
    obtain ⟨hb, h1, h2, h3⟩ := hc
    rcases bd_cases H B A with hb' | ⟨_, hb1, hb2, hb3, hb4⟩
    · rw [hb] at hb'; exact absurd hb' (by decide)
    have HR : Hid (feedR rest s over H B A = ((reqsR (rest ++ s) H B).2.1, (reqsR (rest ++ s) H B).2.2, (reqsR (rest ++ s) H B).1, (reqsR (rest ++ s) H B).2.2)) := Lib.hid (by unfold feedR; rw [if_neg (by simp [hz])])
    subst h3
    rw [hb] at C1
    have C1 := Lib.hid C1
    obtain ⟨T, hT⟩ : ∃ T, rest ++ s = T := ⟨_, rfl⟩
    rw [hT] at HR
    have hTz : T.size ≤ 73728 := by rw [← hT, ByteArray.size_append]; omega
    have hv : ¬ 9223372036854775807 < rest.size + s.size := by omega
    obtain ⟨R, hRR⟩ : ∃ R, R = reqsR T H B := ⟨_, rfl⟩
    rw [← hRR] at HR
    have H0 : Hid (reqsF H B (T.size + 1) T [] = R) := Lib.hid (by rw [hRR]; rfl)
    have d1 : decide ((65536 : Int) < (rest.size : Int)) = false := decide_eq_false (by omega)
    have d1' : decide (65536 < rest.size) = false := decide_eq_false (by omega)
    have d2 : decide ((8192 : Int) < (s.size : Int)) = false := decide_eq_false (by omega)
    have d2' : decide (8192 < s.size) = false := decide_eq_false (by omega)
    have CR := fun t w' (ht : t.size ≤ 1048576) (h : Fe w rest 0 H B A w') => one_any t H B A m w' ht ⟨by omega, by omega⟩ ⟨by omega, by omega⟩ (HM.out w' h)
    unfold ReqRes at CR
    have CR := Lib.hid CR
    clear hb hz h1 h2 hRR
    go_enter Tryd.func25, Tryd.ntmps25
    go_wp2_with fail
    refine C1.out.mono ?_
    rintro e w1 ⟨rfl, hb⟩
    have hX1 := HX.out.step hb
    clear hb r0 r1 b0 b1 b2 s0 s1 f0 f1 hW
    obtain ⟨r0, r1, b0, b1, b2, s0, s1, f0, f1⟩ := hX1.facts
    have HX1 := Lib.hid hX1
    clear hX1
    go_wp2_with fail
    clear r0 r1 b0 b1 b2 s0 s1 f0 f1
    go_loopw [2, 10] (fun x v wr => ∃ (t : ByteArray) (L : List RC) (f : Nat), x = .string t ∧ Fe w rest 0 H B A wr ∧ RL wr (w.heap.size + 3) v L ∧ t.size < f ∧ L.length + t.size ≤ T.size ∧ Hid (reqsF H B f t (L.map RC.plain) = R)) (fun x _ _ => match x with | .string t => t.size | _ => 0)
    case atStart => exact ⟨T, [], T.size + 1, rfl, HX1.out, RL.nil _ _, by omega, by simp, H0.out⟩
    case round =>
      obtain ⟨t, L, f, rfl, hq, hl, hf, hLs, HC⟩ := hrel
      obtain ⟨f, rfl⟩ : ∃ f', f = f' + 1 := ⟨f - 1, by omega⟩
      have htz : t.size ≤ 1048576 := by omega
      obtain ⟨r0, r1, b0, b1, b2, s0, s1, f0, f1⟩ := hq.facts
      have CRt := CR.out t wr htz hq
      obtain ⟨E, h, x, n, hRR⟩ : ∃ E h x n, reqR t H B = (E, h, x, n) := ⟨_, _, _, _, rfl⟩
      rw [hRR] at CRt
      obtain ⟨mm, tt, ff⟩ := h
      dsimp only at CRt
      have CRt := Lib.hid CRt
      obtain ⟨A0, c0, rfl⟩ := hl.form
      have HQ := Lib.hid hq
      have HL := Lib.hid hl
      clear hq hl HX HX1 H0 hT
      go_wp2_with fail
      refine CRt.out.mono ?_
      rintro e w1 ⟨v, rfl, ⟨A1, c1, rfl, ho1⟩, b1'⟩
      have hal := (Below.refl w1.heap.size w1).alloc (Nat.le_refl _) (.cells #[.string mm, .string tt, .slice A1 ff.length c1, .string x] 36)
      have hK := Blk.new w1 36 #[.string mm, .string tt, .slice A1 ff.length c1, .string x]
      have hO : OP 108 w1 wr.heap.size (.slice A1 ff.length c1) ff := ho1
      have hO2 := (hO.kept hal).mono (show w.heap.size + 3 ≤ wr.heap.size from HQ.out.lt)
      have hQ2 := (HQ.out.step b1').step hal
      have hL2 := (HL.out.kept b1').kept hal
      clear b1' ho1 hO hal CRt r0 r1 b0 b1 b2 s0 s1 f0 f1
      go_upto_region 11 with fail
      obtain ⟨V, hV⟩ : ∃ V, w1.alloc (.cells #[.string mm, .string tt, .slice A1 ff.length c1, .string x] 36) = V := ⟨_, rfl⟩
      rw [hV] at hK hO2 hQ2 hL2 ⊢
      clear hV
      have k0 := hK.cell 0
      have k1 := hK.cell 1
      have k2 := hK.cell 2
      have k3 := hK.cell 3
      obtain ⟨r0, r1, b0, b1, b2, s0, s1, f0, f1⟩ := hQ2.facts
      have HQ2 := Lib.hid hQ2
      have HL2 := Lib.hid hL2
      have HO2 := Lib.hid hO2
      clear hK hQ2 hL2 hO2 HQ HL
      by_cases e7 : E = 7
      · have HRR := Lib.hid (HC.out.symm.trans (reqsF_more (by rw [hRR, e7])))
        subst e7
        clear hRR
        obtain ⟨wz, hwz, hbz, z0, z1, hll⟩ := HQ2.out.put (.string t) (.int .i64 0)
        go_wp2_with fail
        rw [← hwz]
        exact bodyPost_ret (v := .tuple #[.agg #[.string t, .int .i64 0], .slice A0 L.length c0, .int .i64 0]) (by simp [results, Tryd.results25, go_sem, z0, z1]) rfl ⟨_, L, by first | (rw [HR.out, HRR.out]; done) | (rw [HR.out, HRR.out]; rfl), (hll _ _ _ (by omega) HL2.out).mono (by omega), by rw [HR.out, HRR.out], hbz⟩
      · have ee7 : (E == 7) = false := beq_eq_false_iff_ne.2 e7
        by_cases e0 : E = 0
        · subst e0
          have hn := reqR_n hRR
          have HC2 := Lib.hid ((reqsF_go hRR).symm.trans HC.out)
          have i1 : (0 : Int) ≤ (n : Int) := by omega
          have i2 : (n : Int) ≤ (t.size : Int) := by omega
          have hV1 : w.heap.size + 3 ≤ V.heap.size := HQ2.out.lt
          have hLl : L.length ≤ 1048576 := by omega
          clear hRR e7
          go_wp2_with (at_builtin; refine wpL_req rfl (.tmp 59) (.tmp 61) rfl HL2.out rfl ⟨A1, c1, ⟨mm, tt, ff⟩, x⟩ HO2.out rfl hLl hV1 ?_; intro A5 c5 w5 h5 hb5; have H5 := Lib.hid h5; have HQ5 := Lib.hid (HQ2.out.grow hb5); clear h5 hb5 k0 k1 k2 k3 r0 r1 b0 b1 b2 s0 s1 f0 f1)
          go_roundw
          case rel => exact ⟨t.extract n t.size, L ++ [⟨A1, c1, ⟨mm, tt, ff⟩, x⟩], f, rfl, HQ5.out, H5.out, by rw [ByteArray.size_extract]; omega, by rw [List.length_append, List.length_singleton, ByteArray.size_extract]; omega, by rw [List.map_append]; exact HC2.out⟩
          case measure => simp only [ByteArray.size_extract]; omega
        · have HRR := Lib.hid (HC.out.symm.trans (reqsF_bad hRR e7 e0))
          have ee : (E != 0) = true := bne_iff_ne.2 e0
          clear hRR e7 e0
          obtain ⟨wz, hwz, hbz, z0, z1, hll⟩ := HQ2.out.put (.string { data := #[] }) (.int .i64 E)
          go_wp2_with fail
          rw [← hwz]
          exact bodyPost_ret (v := .tuple #[.agg #[.string { data := #[] }, .int .i64 E], .slice A0 L.length c0, .int .i64 E]) (by simp [results, Tryd.results25, go_sem, z0, z1]) rfl ⟨_, L, by first | (rw [HR.out, HRR.out]; done) | (rw [HR.out, HRR.out]; rfl), (hll _ _ _ (by omega) HL2.out).mono (by omega), by rw [HR.out, HRR.out], hbz⟩
  · have HR : Hid (feedR rest s over H B A = (rest, over, [], feE rest s over H B A)) := Lib.hid (by unfold feedR; rw [if_pos hz])
    rcases bd_cases H B A with hb | ⟨hb, _, _, _, _⟩
    · have HE : Hid (feE rest s over H B A = 1) := Lib.hid (by unfold feE; rw [hb]; rfl)
      rw [hb] at C1
      have C1 := Lib.hid C1
      clear hb hz
      go_enter Tryd.func25, Tryd.ntmps25
      go_wp2_with fail
      refine C1.out.mono ?_
      rintro e w1 ⟨rfl, hb⟩
      have hX1 := HX.out.step hb
      clear hb r0 r1 b0 b1 b2 s0 s1 f0 f1 hW
      obtain ⟨r0, r1, b0, b1, b2, s0, s1, f0, f1⟩ := hX1.facts
      obtain ⟨wz, hwz, hbz, z0, z1, _⟩ := hX1.put (.string rest) (.int .i64 over)
      clear hX1
      go_wp2_with fail
      rw [← hwz]
      exact bodyPost_ret (v := .tuple #[.agg #[.string rest, .int .i64 over], .slice none 0 0, .int .i64 1]) (by simp [results, Tryd.results25, go_sem, z0, z1]) rfl ⟨_, [], by rw [HR.out, HE.out], RL.nil _ _, by rw [HR.out]; rfl, hbz⟩
    · rw [hb] at C1
      have C1 := Lib.hid C1
      by_cases h1 : 65536 < rest.size
      · have HE : Hid (feE rest s over H B A = 2) := Lib.hid (by unfold feE; rw [if_neg (by simp [hb]), if_pos (.inl h1)])
        have d1 : decide ((65536 : Int) < (rest.size : Int)) = true := decide_eq_true (by omega)
        have d1' : decide (65536 < rest.size) = true := decide_eq_true h1
        clear hb hz h1
        go_enter Tryd.func25, Tryd.ntmps25
        go_wp2_with fail
        refine C1.out.mono ?_
        rintro e w1 ⟨rfl, hb⟩
        have hX1 := HX.out.step hb
        clear hb r0 r1 b0 b1 b2 s0 s1 f0 f1 hW
        obtain ⟨r0, r1, b0, b1, b2, s0, s1, f0, f1⟩ := hX1.facts
        obtain ⟨wz, hwz, hbz, z0, z1, _⟩ := hX1.put (.string rest) (.int .i64 over)
        clear hX1
        go_wp2_with fail
        rw [← hwz]
        exact bodyPost_ret (v := .tuple #[.agg #[.string rest, .int .i64 over], .slice none 0 0, .int .i64 2]) (by simp [results, Tryd.results25, go_sem, z0, z1]) rfl ⟨_, [], by rw [HR.out, HE.out], RL.nil _ _, by rw [HR.out]; rfl, hbz⟩
      · have d1 : decide ((65536 : Int) < (rest.size : Int)) = false := decide_eq_false (by omega)
        have d1' : decide (65536 < rest.size) = false := decide_eq_false h1
        by_cases h2 : 8192 < s.size
        · have HE : Hid (feE rest s over H B A = 2) := Lib.hid (by unfold feE; rw [if_neg (by simp [hb]), if_pos (.inr h2)])
          have d2 : decide ((8192 : Int) < (s.size : Int)) = true := decide_eq_true (by omega)
          have d2' : decide (8192 < s.size) = true := decide_eq_true h2
          clear hb hz h1 h2
          go_enter Tryd.func25, Tryd.ntmps25
          go_wp2_with fail
          refine C1.out.mono ?_
          rintro e w1 ⟨rfl, hb⟩
          have hX1 := HX.out.step hb
          clear hb r0 r1 b0 b1 b2 s0 s1 f0 f1 hW
          obtain ⟨r0, r1, b0, b1, b2, s0, s1, f0, f1⟩ := hX1.facts
          obtain ⟨wz, hwz, hbz, z0, z1, _⟩ := hX1.put (.string rest) (.int .i64 over)
          clear hX1
          go_wp2_with fail
          rw [← hwz]
          exact bodyPost_ret (v := .tuple #[.agg #[.string rest, .int .i64 over], .slice none 0 0, .int .i64 2]) (by simp [results, Tryd.results25, go_sem, z0, z1]) rfl ⟨_, [], by rw [HR.out, HE.out], RL.nil _ _, by rw [HR.out]; rfl, hbz⟩
        · have ho : ¬ over = 0 := fun ho => hz (by unfold feE; rw [if_neg (by simp [hb]), if_neg (by omega), if_neg (by simp [ho])])
          have HE : Hid (feE rest s over H B A = 8) := Lib.hid (by unfold feE; rw [if_neg (by simp [hb]), if_neg (by omega), if_pos ho])
          have d2 : decide ((8192 : Int) < (s.size : Int)) = false := decide_eq_false (by omega)
          have d2' : decide (8192 < s.size) = false := decide_eq_false h2
          have eo : (over != 0) = true := bne_iff_ne.2 ho
          clear hb hz h1 h2 ho
          go_enter Tryd.func25, Tryd.ntmps25
          go_wp2_with fail
          refine C1.out.mono ?_
          rintro e w1 ⟨rfl, hb⟩
          have hX1 := HX.out.step hb
          clear hb r0 r1 b0 b1 b2 s0 s1 f0 f1 hW
          obtain ⟨r0, r1, b0, b1, b2, s0, s1, f0, f1⟩ := hX1.facts
          obtain ⟨wz, hwz, hbz, z0, z1, _⟩ := hX1.put (.string rest) (.int .i64 over)
          clear hX1
          go_wp2_with fail
          rw [← hwz]
          exact bodyPost_ret (v := .tuple #[.agg #[.string rest, .int .i64 over], .slice none 0 0, .int .i64 8]) (by simp [results, Tryd.results25, go_sem, z0, z1]) rfl ⟨_, [], by rw [HR.out, HE.out], RL.nil _ _, by rw [HR.out]; rfl, hbz⟩
end
end Go.Proofs.YtkcncgdgicffhaaDoor
