/- wicklaw.ProgFinds: for all lists of instructions and texts Check, Find and Some return what the reference returns (texts of at most 40 bytes). Condition: none. -/
import Derived.Test.YtckinkapbfaceaaFrmB
import Derived.Test.YtckinkapbfaceaaPrgI
import Derived.Test.YtckinkapbfaceaaPrgK
import Derived.Test.YtckinkapbfaceaaPrgN
import Derived.Test.YtckinkapbfaceaaRexV
import Derived.Laws.StructEq
namespace Go.Proofs.Ytckinkapbfaceaa.lawPrgs
open Go.ChangeShapes Go.WideShapes Go.ChangeAt Go.RowKit Go.Joins Go.Deep
open Go.ChangeMaps (open_string shut_string)
set_option linter.unusedVariables false
set_option linter.unusedSimpArgs false

theorem len4 {α : Type} {l : List α} (h : l.length = 4) : ∃ a b c d, l = [a, b, c, d] := by
  match l, h with
  | [a, b, c, d], _ => exact ⟨a, b, c, d, rfl⟩
theorem len7 {α : Type} {l : List α} (h : l.length = 7) : ∃ a b c d e f g, l = [a, b, c, d, e, f, g] := by
  match l, h with
  | [a, b, c, d, e, f, g], _ => exact ⟨a, b, c, d, e, f, g, rfl⟩
/-- a struct of four fields, of one, one, one and four cells -/
theorem open_struct1114 {H : Type} {enc : TypeId × Value → H} {P : Program} {w : World} {base : Nat} {spare : Nat → Bool} {held : Bool} {t : TypeId} {f0 f1 f2 f3 : Field} {fuel : Nat} {cs : List Value} {x : DataW H × List MemPlace}
    (hs : P.underlying t = some (.struct #[f0, f1, f2, f3])) (hC : P.cellsOf t = 7) (k0 : P.cellsOf f0.type = 1) (o0 : f0.offset = 0) (k1 : P.cellsOf f1.type = 1) (o1 : f1.offset = 1) (k2 : P.cellsOf f2.type = 1) (o2 : f2.offset = 2) (k3 : P.cellsOf f3.type = 4) (o3 : f3.offset = 3)
    (h : DataW.trod enc P w base spare held fuel t cs = some x) :
    ∃ c0 c1 c2 c3 c4 c5 c6 y0 y1 y2 y3 n, fuel = n + 1 ∧ cs = [c0, c1, c2, c3, c4, c5, c6] ∧ DataW.trod enc P w base spare held n f0.type [c0] = some y0 ∧ DataW.trod enc P w base spare held n f1.type [c1] = some y1 ∧ DataW.trod enc P w base spare held n f2.type [c2] = some y2 ∧ DataW.trod enc P w base spare held n f3.type [c3, c4, c5, c6] = some y3 := by
  obtain ⟨xs, n, rfl, _, hl, hxs, hg⟩ := DataW.trod_struct hs h
  obtain ⟨c0, c1, c2, c3, c4, c5, c6, rfl⟩ := len7 (hl.trans hC)
  obtain ⟨y0, y1, y2, y3, rfl⟩ := len4 hxs
  exact ⟨c0, c1, c2, c3, c4, c5, c6, y0, y1, y2, y3, n, rfl, rfl, by simpa [o0, k0] using hg 0 f0 rfl, by simpa [o1, k1] using hg 1 f1 rfl, by simpa [o2, k2] using hg 2 f2 rfl, by simpa [o3, k3] using hg 3 f3 rfl⟩
theorem open_inst {H : Type} {enc : TypeId × Value → H} {W : World} {n : Nat} {cs : List Value} {x : DataW H × List MemPlace} (h : DataW.trod enc Try.prog W 0 (fun _ => true) true n 35 cs = some x) :
    ∃ i : In, cs = i.cs ∧ i.s.ok := by
  obtain ⟨c0, c1, c2, c3, c4, c5, c6, y0, y1, y2, y3, m, rfl, rfl, g0, g1, g2, g3⟩ := open_struct1114 Try.underlying35 (by kernel_rfl) (by kernel_rfl) rfl (by kernel_rfl) rfl (by kernel_rfl) rfl (by kernel_rfl) rfl h
  obtain ⟨k, e0, _, hk⟩ := DataW.trod_int Try.underlying3 g0
  obtain ⟨a, e1, _, ha⟩ := DataW.trod_int Try.underlying3 g1
  obtain ⟨b, e2, _, hb⟩ := DataW.trod_int Try.underlying3 g2
  obtain ⟨z0, z1, z2, z3, m1, _, a0, a1, a2, a3⟩ := trod_array4 Try.underlying24 (by kernel_rfl) g3
  obtain ⟨b0, f0, _, hb0⟩ := DataW.trod_int Try.underlying22 a0
  obtain ⟨b1, f1, _, hb1⟩ := DataW.trod_int Try.underlying22 a1
  obtain ⟨b2, f2, _, hb2⟩ := DataW.trod_int Try.underlying22 a2
  obtain ⟨b3, f3, _, hb3⟩ := DataW.trod_int Try.underlying22 a3
  simp only [List.cons.injEq, and_true] at e0 e1 e2 f0 f1 f2 f3
  subst e0; subst e1; subst e2; subst f0; subst f1; subst f2; subst f3
  obtain ⟨n0, rfl, hn0⟩ := u64_nat hb0
  obtain ⟨n1, rfl, hn1⟩ := u64_nat hb1
  obtain ⟨n2, rfl, hn2⟩ := u64_nat hb2
  obtain ⟨n3, rfl, hn3⟩ := u64_nat hb3
  exact ⟨⟨k, a, b, ⟨n0, n1, n2, n3⟩⟩, rfl, hn0, hn1, hn2, hn3⟩
/-- instructions that came in -/
theorem open_insts {H : Type} {enc : TypeId × Value → H} {W : World} {n : Nat} {c : Value} {x : DataW H × List MemPlace} (h : DataW.trod enc Try.prog W 0 (fun _ => true) true n 28 [c] = some x) :
    ∃ (A : Option Addr) (cap : Nat) (l : List In), c = .slice A l.length cap ∧ InR W W.heap.size A cap l := by
  rcases DataW.trod_slice Try.underlying28 h with ⟨e5, _⟩ | ⟨a, len, cap, elems, rest, k', rfl, e5, hx, _, hl, hm, hlen, hel, hsp, hns⟩
  · simp only [List.cons.injEq, and_true] at e5
    subst e5
    exact ⟨none, 0, [], rfl, Reads.none_, Nat.le_refl _, Nat.zero_le _, by simp⟩
  · simp only [List.cons.injEq, and_true] at e5
    subst e5
    have kk : Try.prog.cellsOf 35 = 7 := by kernel_rfl
    rw [kk] at hel
    have hone : ∀ i, i < len → ∃ (cs' : List Value) (f : In), W.cells? 0 (a.add (i * 7)) 7 = some cs' ∧ cs' = f.cs ∧ f.s.ok := by
      intro i hi
      have h1 : (W.cells? 0 (a.add (i * 7)) 7).bind (DataW.trod enc Try.prog W 0 (fun _ => true) true k' 35) = elems[i]? := hel i hi
      rw [List.getElem?_eq_getElem (by omega)] at h1
      obtain ⟨cs', h2, h3⟩ := Option.bind_eq_some_iff.1 h1
      obtain ⟨f, hf, hz⟩ := open_inst h3
      exact ⟨cs', f, h2, hf, hz⟩
    obtain ⟨fs, hfs, hall⟩ := list_of_lt hone
    refine ⟨some a, cap, fs, by rw [hfs], ⟨by rw [inFlat_len], fun h0 => ?_⟩, Nat.le_refl _, by omega, fun f hf => ?_⟩
    · obtain ⟨cs', _, h2, _⟩ := hone 0 (by omega)
      obtain ⟨_, h3, h4⟩ := World.cells?_some h2
      refine ⟨a, rfl, ?_, fun j u hu => ?_⟩
      · have h5 := h4 0 (by omega)
        rw [List.getElem?_eq_getElem (by omega)] at h5
        have := World.block_lt_of_cell? _ _ h5
        rwa [block_of_add, block_of_add] at this
      · obtain ⟨hj, _⟩ := List.getElem?_eq_some_iff.1 hu
        rw [inFlat_len] at hj
        have hi : j / 7 < fs.length := by omega
        obtain ⟨cs', g2, g3, _⟩ := hall (j / 7) hi
        obtain ⟨_, g4, g5⟩ := World.cells?_some g2
        have hget := inFlat_get (List.getElem?_eq_getElem hi) (j := j % 7) (by omega)
        rw [Nat.div_add_mod' j 7] at hget
        rw [hu, ← g3] at hget
        have := g5 (j % 7) (by omega)
        rw [add_of_add, Nat.div_add_mod' j 7] at this
        rw [this, ← hget]
    · obtain ⟨i, hi, rfl⟩ := List.mem_iff_getElem.1 hf
      obtain ⟨_, _, _, hz⟩ := hall i hi
      exact hz
set_option maxRecDepth 100000 in
theorem open_instsV {H : Type} {enc : TypeId × Value → H} {W : World} {v : Value} {d : DataW H} {p : List MemPlace} {base : Nat}
    (hv : Value.okWide Try.prog W .any base 28 v) (h : DataW.Trod enc Try.prog W 0 (fun _ => true) true 28 v d p) :
    ∃ (A : Option Addr) (cap : Nat) (l : List In), v = .slice A l.length cap ∧ InR W W.heap.size A cap l := by
  obtain ⟨a0, len, cap, rfl⟩ := okWide_slice Try.underlying28 hv
  obtain ⟨fuel, hf⟩ := h
  have hf2 : DataW.trod enc Try.prog W 0 (fun _ => true) true fuel 28 [.slice a0 len cap] = some (d, p) := by simpa [Value.cells] using hf
  exact open_insts hf2

section
variable (l : List In) (A : Option Addr) (c B : Nat) (s : ByteArray) (w : World)
set_option maxRecDepth 100000 in
set_option maxHeartbeats 2000000 in
theorem walk_bad (h : InR w B A c l) (hs : s.size ≤ 9223372036854775807) (h0 : ¬ errPS l s.size = 0) :
    Calls Try.prog 5 #[.slice A l.length c, .string s] w fun e w' => e = .returned (.bool true) ∧ Below w.heap.size w w' := by
  have CP := Lib.hid (refProg_any l A c B w h)
  have CF := Lib.hid fun w1 (hb : Below w.heap.size w w1) => pfind_bad l A c B s w1 (h.kept hb) hs h0
  have CS := Lib.hid fun w1 (hb : Below w.heap.size w w1) => psome_bad l A c B s w1 (h.kept hb) hs h0
  have CC := Lib.hid fun w1 (hb : Below w.heap.size w w1) => prgCheck_any l A c B w1 (h.kept hb)
  have HE : Hid (errPS l s.size = if errP l = 0 then (if 8192 < s.size then 2 else 0) else errP l) := rfl
  obtain ⟨E, hE⟩ : ∃ E, E = errP l := ⟨_, rfl⟩
  obtain ⟨F, hF⟩ : ∃ F, F = errPS l s.size := ⟨_, rfl⟩
  rw [← hE] at CP CC HE
  rw [← hF] at CF CS HE h0
  have hw : (E = F ∧ (F != 0) = true ∧ (F == 0) = false) ∨ (E = 0 ∧ F = 2 ∧ (8192 : Int) < (s.size : Int)) := by
    have h1 := HE.out
    by_cases hz : E = 0
    · rw [if_pos hz] at h1
      by_cases h2 : 8192 < s.size
      · rw [if_pos h2] at h1; exact .inr ⟨hz, h1, by omega⟩
      · rw [if_neg h2] at h1; exact absurd h1 h0
    · rw [if_neg hz] at h1
      exact .inl ⟨h1.symm, bne_iff_ne.2 h0, beq_eq_false_iff_ne.2 h0⟩
  clear hE hF HE h h0
  rcases hw with ⟨rfl, e1, e2⟩ | ⟨rfl, rfl, e1⟩
  all_goals
    go_enter Try.func5, Try.ntmps5
    go_wp2_with fail
    refine CP.out.mono ?_
    rintro e w1 ⟨rfl, q, hq⟩
    have HB1 : Hid (Below w.heap.size w w1) := by show Below _ _ _; rw [hq]; exact below_drewN (Below.refl _ _) q
    have hz1 : w.heap.size ≤ w1.heap.size := HB1.out.size
    clear hq CP
    go_wp2_with fail
    refine (CF.out _ HB1.out).mono ?_
    rintro e w2 ⟨rfl, b2⟩
    have HB2 := Lib.hid (HB1.out.trans (b2.mono hz1))
    have hz2 : w.heap.size ≤ w2.heap.size := HB2.out.size
    obtain ⟨V, hV⟩ : ∃ V, V = w2.alloc (.cells #[.int .i64 0, .int .i64 0] 52) := ⟨_, rfl⟩
    have hVb : Below w2.heap.size w2 V := by rw [hV]; exact (Below.refl _ _).alloc (Nat.le_refl _) _
    have hVk : Blk V w2.heap.size 52 #[.int .i64 0, .int .i64 0] := by rw [hV]; exact Blk.new _ _ _
    have HVK := Lib.hid hVk
    have HBV := Lib.hid (HB2.out.trans (hVb.mono hz2))
    have hzV : w.heap.size ≤ V.heap.size := HBV.out.size
    have hlV : w2.heap.size < V.heap.size := hVk.lt
    have HV := Lib.hid hV
    clear b2 hVb hVk CF hV
    go_wp2_with fail
    rw [← HV.out]
    refine (CS.out _ HBV.out).mono ?_
    rintro e w3 ⟨rfl, b3⟩
    have HB3 := Lib.hid (HBV.out.trans (b3.mono hzV))
    have HVK3 := Lib.hid (HVK.out.below b3 hlV)
    have hz3 : w.heap.size ≤ w3.heap.size := HB3.out.size
    have hl3 : w2.heap.size < w3.heap.size := HVK3.out.lt
    clear b3 CS
    go_wp2_with fail
    refine (CC.out _ HB3.out).mono ?_
    rintro e w4 ⟨rfl, b4⟩
    have HB4 := Lib.hid (HB3.out.trans (b4.mono hz3))
    have hVK4 := HVK3.out.below b4 hl3
    have r0 : w4.cell? ⟨w2.heap.size, 0, none⟩ = some (.int .i64 0) := hVK4.cell 0
    have r1 : w4.cell? ⟨w2.heap.size, 1, none⟩ = some (.int .i64 0) := hVK4.cell 1
    clear b4 hVK4 CC
    go_wp2_with fail
    go_ret
    exact ⟨rfl, HB4.out⟩
set_option maxRecDepth 100000 in
set_option maxHeartbeats 2000000 in
theorem walk_long (h : InR w B A c l) (hs : s.size ≤ 9223372036854775807) (h0 : errPS l s.size = 0) (hk : 40 < s.size) :
    Calls Try.prog 5 #[.slice A l.length c, .string s] w fun e w' => e = .returned (.bool true) ∧ Below w.heap.size w w' := by
  obtain ⟨e1, e2⟩ := errPS_ok h0
  obtain ⟨e3, e4, e5⟩ := errP_ok e1
  have CP := refProg_any l A c B w h
  rw [e1] at CP
  have CP := Lib.hid CP
  have CF := Lib.hid fun w1 (hb : Below w.heap.size w w1) => pfind_ok l A c B s w1 (h.kept hb) hs h0
  have CS := Lib.hid fun w1 (hb : Below w.heap.size w w1) => psome_ok l A c B s w1 (h.kept hb) hs h0
  have CC0 : ∀ w1, Below w.heap.size w w1 → _ := fun w1 (hb : Below w.heap.size w w1) => prgCheck_any l A c B w1 (h.kept hb)
  rw [e1] at CC0
  have CC := Lib.hid CC0
  have d1 : ¬ (8192 : Int) < (s.size : Int) := by omega
  have d2 : decide ((8192 : Int) < (s.size : Int)) = false := decide_eq_false d1
  have d3 : (40 : Int) < (s.size : Int) := by omega
  clear h h0 CC0 e1 e3
  go_enter Try.func5, Try.ntmps5
  go_wp2_with fail
  refine CP.out.mono ?_
  rintro e w1 ⟨rfl, q, hq⟩
  have HB1 : Hid (Below w.heap.size w w1) := by show Below _ _ _; rw [hq]; exact below_drewN (Below.refl _ _) q
  have hz1 : w.heap.size ≤ w1.heap.size := HB1.out.size
  clear hq CP
  go_wp2_with fail
  refine (CF.out _ HB1.out).mono ?_
  rintro e w2 ⟨i, j, b, rfl, hF, b2⟩
  have HF := Lib.hid hF
  have HB2 := Lib.hid (HB1.out.trans (b2.mono hz1))
  have hz2 : w.heap.size ≤ w2.heap.size := HB2.out.size
  obtain ⟨V, hV⟩ : ∃ V, w2.alloc (.cells #[.int .i64 (i : Int), .int .i64 (j : Int)] 52) = V := ⟨_, rfl⟩
  have hVb : Below w2.heap.size w2 V := by rw [← hV]; exact (Below.refl _ _).alloc (Nat.le_refl _) _
  have hVk : Blk V w2.heap.size 52 #[.int .i64 (i : Int), .int .i64 (j : Int)] := by rw [← hV]; exact Blk.new _ _ _
  have HVK := Lib.hid hVk
  have HBV := Lib.hid (HB2.out.trans (hVb.mono hz2))
  have hzV : w.heap.size ≤ V.heap.size := HBV.out.size
  have hlV : w2.heap.size < V.heap.size := hVk.lt
  clear b2 hVb hVk CF hF
  go_wp2_with fail
  refine (CS.out _ HBV.out).mono ?_
  rintro e w3 ⟨b', rfl, s1, s2, b3⟩
  have hbb : b' = b := by
    rcases HF.out with ⟨hb, h1, _⟩ | ⟨hb, _, _, h1⟩
    · cases hb' : b' with
      | true => exact hb.symm
      | false => exact absurd h1 (s2 hb' _ _)
    · cases hb' : b' with
      | true => obtain ⟨i', j', h2⟩ := s1 hb'; exact absurd h2 (h1 _ _)
      | false => exact hb.symm
  subst hbb
  have HB3 := Lib.hid (HBV.out.trans (b3.mono hzV))
  have HVK3 := Lib.hid (HVK.out.below b3 hlV)
  have hz3 : w.heap.size ≤ w3.heap.size := HB3.out.size
  have hl3 : w2.heap.size < w3.heap.size := HVK3.out.lt
  clear b3 CS hV s1 s2
  go_wp2_with fail
  refine (CC.out _ HB3.out).mono ?_
  rintro e w4 ⟨rfl, b4⟩
  have HB4 := Lib.hid (HB3.out.trans (b4.mono hz3))
  have hVK4 := HVK3.out.below b4 hl3
  have r0 : w4.cell? ⟨w2.heap.size, 0, none⟩ = some (.int .i64 (i : Int)) := hVK4.cell 0
  have r1 : w4.cell? ⟨w2.heap.size, 1, none⟩ = some (.int .i64 (j : Int)) := hVK4.cell 1
  have HVK4 := Lib.hid hVK4
  have hl4 : w2.heap.size < w4.heap.size := hVK4.lt
  clear b4 hVK4 CC
  go_wp2_with fail
  go_ret
  exact ⟨rfl, HB4.out⟩
set_option maxRecDepth 100000 in
set_option maxHeartbeats 2000000 in
theorem walk_ok (h : InR w B A c l) (hs : s.size ≤ 9223372036854775807) (h0 : errPS l s.size = 0) (hk : s.size ≤ 40) :
    Calls Try.prog 5 #[.slice A l.length c, .string s] w fun e w' => e = .returned (.bool true) ∧ Below w.heap.size w w' := by
  obtain ⟨e1, e2⟩ := errPS_ok h0
  obtain ⟨e3, e4, e5⟩ := errP_ok e1
  have CP := refProg_any l A c B w h
  rw [e1] at CP
  have CP := Lib.hid CP
  have CF := Lib.hid fun w1 (hb : Below w.heap.size w w1) => pfind_ok l A c B s w1 (h.kept hb) hs h0
  have CS := Lib.hid fun w1 (hb : Below w.heap.size w w1) => psome_ok l A c B s w1 (h.kept hb) hs h0
  have CC0 : ∀ w1, Below w.heap.size w w1 → _ := fun w1 (hb : Below w.heap.size w w1) => prgCheck_any l A c B w1 (h.kept hb)
  rw [e1] at CC0
  have CC := Lib.hid CC0
  have CR := Lib.hid fun w1 (hb : Below w.heap.size w w1) => runs_any l A c B s w1 e3 e4 e5 (h.kept hb) hk
  have d1 : ¬ (8192 : Int) < (s.size : Int) := by omega
  have d2 : decide ((8192 : Int) < (s.size : Int)) = false := decide_eq_false d1
  have d3 : ¬ (40 : Int) < (s.size : Int) := by omega
  clear h h0 CC0 e1 e3
  go_enter Try.func5, Try.ntmps5
  go_wp2_with fail
  refine CP.out.mono ?_
  rintro e w1 ⟨rfl, q, hq⟩
  have HB1 : Hid (Below w.heap.size w w1) := by show Below _ _ _; rw [hq]; exact below_drewN (Below.refl _ _) q
  have hz1 : w.heap.size ≤ w1.heap.size := HB1.out.size
  clear hq CP
  go_wp2_with fail
  refine (CF.out _ HB1.out).mono ?_
  rintro e w2 ⟨i, j, b, rfl, hF, b2⟩
  have HF := Lib.hid hF
  have HB2 := Lib.hid (HB1.out.trans (b2.mono hz1))
  have hz2 : w.heap.size ≤ w2.heap.size := HB2.out.size
  obtain ⟨V, hV⟩ : ∃ V, w2.alloc (.cells #[.int .i64 (i : Int), .int .i64 (j : Int)] 52) = V := ⟨_, rfl⟩
  have hVb : Below w2.heap.size w2 V := by rw [← hV]; exact (Below.refl _ _).alloc (Nat.le_refl _) _
  have hVk : Blk V w2.heap.size 52 #[.int .i64 (i : Int), .int .i64 (j : Int)] := by rw [← hV]; exact Blk.new _ _ _
  have HVK := Lib.hid hVk
  have HBV := Lib.hid (HB2.out.trans (hVb.mono hz2))
  have hzV : w.heap.size ≤ V.heap.size := HBV.out.size
  have hlV : w2.heap.size < V.heap.size := hVk.lt
  clear b2 hVb hVk CF hF
  go_wp2_with fail
  refine (CS.out _ HBV.out).mono ?_
  rintro e w3 ⟨b', rfl, s1, s2, b3⟩
  have hbb : b' = b := by
    rcases HF.out with ⟨hb, h1, _⟩ | ⟨hb, _, _, h1⟩
    · cases hb' : b' with
      | true => exact hb.symm
      | false => exact absurd h1 (s2 hb' _ _)
    · cases hb' : b' with
      | true => obtain ⟨i', j', h2⟩ := s1 hb'; exact absurd h2 (h1 _ _)
      | false => exact hb.symm
  subst hbb
  have HB3 := Lib.hid (HBV.out.trans (b3.mono hzV))
  have HVK3 := Lib.hid (HVK.out.below b3 hlV)
  have hz3 : w.heap.size ≤ w3.heap.size := HB3.out.size
  have hl3 : w2.heap.size < w3.heap.size := HVK3.out.lt
  clear b3 CS hV s1 s2
  go_wp2_with fail
  refine (CC.out _ HB3.out).mono ?_
  rintro e w4 ⟨rfl, b4⟩
  have HB4 := Lib.hid (HB3.out.trans (b4.mono hz3))
  have hVK4 := HVK3.out.below b4 hl3
  have r0 : w4.cell? ⟨w2.heap.size, 0, none⟩ = some (.int .i64 (i : Int)) := hVK4.cell 0
  have r1 : w4.cell? ⟨w2.heap.size, 1, none⟩ = some (.int .i64 (j : Int)) := hVK4.cell 1
  have HVK4 := Lib.hid hVK4
  have hl4 : w2.heap.size < w4.heap.size := hVK4.lt
  clear b4 hVK4 CC
  go_wp2_with fail
  refine (CR.out _ HB4.out).mono ?_
  rintro e w5 ⟨g, T, rfl, hT, hg, b5, hS⟩
  have hz4 : w.heap.size ≤ w4.heap.size := HB4.out.size
  have HB5 := Lib.hid (HB4.out.trans (b5.mono hz4))
  have HVK5 := Lib.hid (HVK4.out.below b5 hl4)
  have hz5 : w.heap.size ≤ w5.heap.size := HB5.out.size
  have hl5 : w2.heap.size < w5.heap.size := HVK5.out.lt
  have C6 := Lib.hid (First_any s.size g (by omega) T w5 hT)
  have HS := Lib.hid hS
  clear hT hS b5 r0 r1 CR
  go_wp2_with fail
  refine C6.out.mono ?_
  rintro e w6 ⟨⟨i', j', b'', rfl, hF2⟩, b6⟩
  have hFF : i' = i ∧ j' = j ∧ b'' = b' := FirstR.same (FirstT.firstR (s := s.data.toList) (by rw [lst_len]; exact hF2) HS.out) HF.out
  obtain ⟨rfl, rfl, rfl⟩ := hFF
  have HB6 := Lib.hid (HB5.out.trans (b6.mono hz5))
  have hVK6 := HVK5.out.below b6 hl5
  have r0 : w6.cell? ⟨w2.heap.size, 0, none⟩ = some (.int .i64 (i' : Int)) := hVK6.cell 0
  have r1 : w6.cell? ⟨w2.heap.size, 1, none⟩ = some (.int .i64 (j' : Int)) := hVK6.cell 1
  have hl6 : w2.heap.size < w6.heap.size := hVK6.lt
  clear b6 hVK6 hF2
  go_wp2_with fail
  go_ret
  exact ⟨rfl, HB6.out.alloc HB6.out.size _⟩
theorem walk (h : InR w B A c l) (hs : s.size ≤ 9223372036854775807) :
    Calls Try.prog 5 #[.slice A l.length c, .string s] w fun e w' => e = .returned (.bool true) ∧ Below w.heap.size w w' := by
  by_cases h0 : errPS l s.size = 0
  · by_cases h1 : 40 < s.size
    · exact walk_long l A c B s w h hs h0 h1
    · exact walk_ok l A c B s w h hs h0 (by omega)
  · exact walk_bad l A c B s w h hs h0
end
theorem own : ownKnob Try.prog.godebug = none := by kernel_rfl
set_option maxRecDepth 100000 in
theorem contract (H : Type) (enc : TypeId × Value → H) (W : World) (base : Nat) (args : Array Value) (ds gs : List (DataW H)) (before : List MemPlace)
    (hval : ∀ (j : Nat) t v, Try.f5.params[j]? = some t → args[j]? = some v → Value.okWide Try.prog W .any base t v)
    (hW : DataW.Whole enc Try.prog Try.f5.params.toList Rows.progFindsSpec.vars false W args.toList ds gs before) :
    Calls Try.prog 5 args W fun e W' => ∃ v, e = .returned v ∧ Rows.progFindsSpec.post enc Try.prog Try.f5 false true false false W args v W' := by
  have hW' := hW
  obtain ⟨p, q, hA0, hV, rfl, hfz, hnd⟩ := hW
  have hA : DataW.TrodAll enc Try.prog W 0 (fun _ => true) true Try.f5.params.toList args.toList ds p := hA0
  rw [Try.params5] at hA hval
  obtain ⟨v0, vs0, d0, ds0, p0, q0, hargs, rfl, rfl, h0, r0⟩ := trodAll_cons hA
  obtain ⟨v1, vs1, d1, ds1, p1, q1, rfl, rfl, rfl, h1, r1⟩ := trodAll_cons r0
  obtain ⟨rfl, rfl, rfl⟩ := trodAll_nil r1
  obtain rfl : args = #[v0, v1] := by cases args; simp_all
  obtain ⟨rfl, rfl⟩ := trodVars_none hV
  obtain ⟨A, cap, l, rfl, hR⟩ := open_instsV (hval 0 28 v0 rfl rfl) h0
  obtain ⟨a1, rfl, rfl, rfl, w1⟩ := open_string Try.underlying9 (hval 1 9 v1 rfl rfl) h1
  unfold maxLen at w1
  clear hA0
  refine (walk l A cap W.heap.size a1 W hR (by omega)).mono fun e W' ⟨he, hg⟩ => ?_
  subst he
  exact ⟨_, rfl, post_true 4 Try.underlying4 (by kernel_rfl) (by kernel_rfl) (by kernel_rfl) rfl rfl hW' hg⟩

set_option maxRecDepth 100000 in
theorem lifted (os : Os) (started : os.Started) (H : Type) (enc : TypeId × Value → H) :
    ReturnsInHanded {} Try.checked os 5 .any (Rows.progFindsSpec.pre6 enc Try.prog Try.f5 Rows.progFindsRow.domain false) (Rows.progFindsSpec.post enc Try.prog Try.f5 false true false false) := by
  refine returnsInHanded_of_change (C := Try.checked) own started (by kernel_rfl) Try.func5
    (ChangeSpec.witness6 (enc := enc) (C := Try.checked) false ⟨#[], #[.slice none 0 0, .string ByteArray.empty], []⟩ 8 (by kernel_rfl) (by kernel_rfl) (by kernel_rfl) (by kernel_rfl)) ?_
  intro W base args ds gs before hval hW _ _
  exact contract H enc W base args ds gs before hval hW

theorem proved : Rows.ProgFindsSaid :=
  OpenClaim.holds_of_wide 5 Try.f5 rfl rfl rfl rfl rfl rfl rfl ⟨rfl, rfl, rfl, rfl, rfl⟩ rfl rfl rfl rfl rfl (by kernel_rfl) Try.func5 (by kernel_rfl)
    (of_decide_eq_true (by kernel_rfl)) (by unfold Func.isWrapper; first | (rw [if_pos (by decide +kernel)]; kernel_rfl) | (rw [if_neg (by decide +kernel)]; exact ⟨rfl, rfl⟩))
    (fun os started H enc _ => lifted os started H enc)
#print axioms proved
end Go.Proofs.Ytckinkapbfaceaa.lawPrgs
