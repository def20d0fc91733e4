/- Walk: prog.run (printed by gen_prgg.py). -/
import Derived.Test.YtckinkapbfaceaaPrgF
import Derived.Deep.RegionLaw
import Derived.StillTailTactics
namespace Go.Proofs.Ytckinkapbfaceaa
open Go.RowKit
set_option linter.unusedVariables false
set_option linter.unusedSimpArgs false

theorem not_mat {l : List In} {p : Nat} {x : In} (hx : l[p]? = some x) (h : x.k ≠ 6) : ¬ Mat l p := fun ⟨y, h1, h2⟩ => by rw [hx] at h1; cases h1; exact h h2
theorem not_byt {l : List In} {s : List UInt8} {a p : Nat} {x : In} (hx : l[p]? = some x) (h : x.k ≠ 1 ∨ s.length ≤ a ∨ ∃ h : a < s.length, setB x.s s[a].toNat = false) (q : Nat) : ¬ Byt l s a p q := fun ⟨y, h1, h2, ⟨h3, h4⟩, _⟩ => by
  rw [hx] at h1; cases h1
  rcases h with h | h | ⟨h, h5⟩
  · exact h h2
  · omega
  · rw [h5] at h4; cases h4
section
variable (l : List In) (A : Option Addr) (c B : Nat) (s : ByteArray) (early : Bool) (w : World)
set_option maxRecDepth 100000 in
set_option maxHeartbeats 16000000 in
theorem run_any (hr : RightP l) (h0 : 0 < l.length) (h4 : l.length ≤ 400) (hp : InR w B A c l) (hs : s.size ≤ 8192) :
    Calls Try.prog 50 #[.slice A l.length c, .string s, .bool early] w (RunRes l s early w) := by
  have hmk := make_ints l.length (by omega)
  have HP := Lib.hid hp
  have HR := Lib.hid hr
  have HB0 := Lib.hid hp.hB
  have hRB0 := RuB.start w
  obtain ⟨W, hW⟩ : ∃ W, (w.alloc (.cells #[.int .i64 0, .int .i64 0, .bool false] 98)).alloc (.cells #[.int .i64 0, .int .i64 0, .bool false] 98) = W := ⟨_, rfl⟩
  rw [hW] at hRB0
  have hWs : Hid (W.heap.size = w.heap.size + 2) := by show _ = _; rw [← hW]; simp
  have hT0 := Thr.fresh W l.length A c s
  obtain ⟨W2, hW2⟩ : ∃ W2, (W.alloc (.cells (madeCells #[.int .i64 0] l.length) 3)).alloc (.cells #[.slice A l.length c, .string s, .slice (some ⟨W.heap.size, 0, none⟩) l.length l.length, .slice none 0 0] 138) = W2 := ⟨_, rfl⟩
  rw [hW2] at hT0
  have HT0 := Lib.hid hT0
  have HRB := Lib.hid (hRB0.kept (w' := W2) (by rw [← hW2]; exact ((Below.refl _ _).alloc (Nat.le_refl _) _).alloc (by simp) _))
  have HU0 : Hid (([] : List Nat).length + unm (fun _ => 0) l.length ≤ l.length) := by
    show 0 + _ ≤ _
    have : ∀ n, unm (fun _ => 0) n ≤ n := fun n => by
      unfold unm
      induction n with
      | zero => exact Nat.le_refl _
      | succ n ih => unfold cntF; split <;> omega
    have := this l.length
    omega
  clear hp hr hRB0 hT0
  go_enter Try.func50, Try.ntmps50
  go_wp2_with fail
  go_loopw [8, 9] (fun u v wr => ∃ (a fb : Nat) (F : Nat → Nat) (lv : Value) (L : List Nat) (fd : Bool) (f e : Nat), u = .pointer (some ⟨fb + 1, 0, none⟩) ∧ v = .int .i64 (a : Int) ∧ a ≤ s.size + 1 ∧ Thr wr fb l.length A c s F lv L ∧ RuB w wr fd f e ∧ w.heap.size + 2 ≤ fb ∧ Hid (PlSt l s.data.toList a (GB fd f a) F L) ∧ Hid (Best l s.data.toList a fd f e) ∧ Hid (L.length + unm F l.length ≤ l.length)) (fun _ v _ => s.size + 1 - (intOf v).toNat)
  case atStart => exact ⟨0, W.heap.size, fun _ => 0, .slice none 0 0, [], false, 0, 0, rfl, rfl, by omega, HT0.out, HRB.out, by have := hWs.out; omega, PlSt.start _ _, Best.start _ _, HU0⟩
  case round =>
    obtain ⟨a, fb, F, lv, L, fd, f, e, rfl, rfl, ha, hT, hRB, hfb, HPl, HBe, HU⟩ := hrel
    clear hW hW2
    have b0 : wr.cell? ⟨w.heap.size + 1, 0, none⟩ = some (.int .i64 (f : Int)) := hRB.b.cell 0
    have b1 : wr.cell? ⟨w.heap.size + 1, 1, none⟩ = some (.int .i64 (e : Int)) := hRB.b.cell 1
    have b2 : wr.cell? ⟨w.heap.size + 1, 2, none⟩ = some (.bool fd) := hRB.b.cell 2
    by_cases hlt : a ≤ s.size
    · have i1 : (a : Int) ≤ (s.size : Int) := by omega
      have i2 : IntKind.i64.wrap ((a : Int) + 1) = (a : Int) + 1 := IntWalk.i64_in _ (by omega)
      have hfbl : fb + 1 < wr.heap.size := hT.st.lt
      have HT := Lib.hid hT
      have HRB := Lib.hid hRB
      cases fd with
      | false =>
        have C := Lib.hid (add_any l A c B s fb 0 a a F lv L wr HR.out h4 (HP.out.below (hRB.be.mono HB0.out)) (by have := HB0.out; omega) hT h0 (by have := HPl.out.clo; rwa [lst_len] at this) HPl.out.le HU.out (by omega) (by omega) hs)
        clear hT hRB
        go_wp2_with fail
        refine C.out.mono ?_
        rintro y w1 ⟨rfl, F1, lv1, L1, hT1, hA1, hc1, hb1⟩
        have HPl1 : Hid (PlSt l s.data.toList a (GB false f (a + 1)) F1 L1) := by
          have h1 := HBe.out.2 rfl
          have h2 := PlSt.fresh (F' := F1) (L' := L1) (by have := HPl.out; rwa [h1.1] at this) (by rw [lst_len]; exact hA1)
          rw [h1.1]; exact h2
        have HU1 := Lib.hid hc1
        have hRB1 := HRB.out.below hb1 (by omega)
        clear hb1 hA1 hc1 b0 b1 b2 C
        obtain ⟨wm, rfl⟩ : ∃ wm : World, wm = wr := ⟨_, rfl⟩
        have hT2 := Thr.fresh w1 l.length A c s
        obtain ⟨w2, hw2⟩ : ∃ w2, (w1.alloc (.cells (madeCells #[.int .i64 0] l.length) 3)).alloc (.cells #[.slice A l.length c, .string s, .slice (some ⟨w1.heap.size, 0, none⟩) l.length l.length, .slice none 0 0] 138) = w2 := ⟨_, rfl⟩
        rw [hw2] at hT2
        have hb2 : Below w1.heap.size w1 w2 := by rw [← hw2]; exact ((Below.refl _ _).alloc (Nat.le_refl _) _).alloc (by simp) _
        have hT12 := hT1.below (B := 0) hb2
        have HO : Hid (∀ g, lv1.ownBlock = some g → g < w1.heap.size) := fun g h => (hT1.lo.lt_ g h).2
        have hfb1 : fb + 1 < w1.heap.size := hT1.st.lt
        have hRB2 := hRB1.kept hb2
        obtain ⟨A', c', e1⟩ := hT1.lo.form
        rw [nl_len] at e1
        subst e1
        have t3 : w2.cell? ⟨fb + 1, 3, none⟩ = some (.slice A' L1.length c') := hT12.st.cell 3
        have HT12 := Lib.hid hT12
        have HT2 := Lib.hid hT2
        have HRB2 := Lib.hid hRB2
        have HM0 : Hid (Mid l s.data.toList a F1 L1 false f 0 false f e) := Mid.start HBe.out
        have HN0 : Hid (NxSt l s.data.toList a F1 L1 0 false f (fun _ => 0) []) := NxSt.start
        clear hT1 hT2 hb2 hT12 hRB1 hRB2
        go_wp2_with fail
        go_loopw [47] (fun u wr => ∃ (k : Nat) (F2 : Nat → Nat) (lv2 : Value) (L2 : List Nat) (fd' : Bool) (f' e' : Nat), u = .int .i64 (k : Int) ∧ k ≤ L1.length ∧ Thr wr fb l.length A c s F1 (.slice A' L1.length c') L1 ∧ Thr wr w1.heap.size l.length A c s F2 lv2 L2 ∧ RuB w wr fd' f' e' ∧ Hid (Mid l s.data.toList a F1 L1 false f k fd' f' e') ∧ Hid (NxSt l s.data.toList a F1 L1 k fd' f' F2 L2) ∧ Hid (L2.length + unm F2 l.length ≤ l.length)) (fun u _ => L1.length - (intOf u).toNat)
        case atStart => exact ⟨0, fun _ => 0, .slice none 0 0, [], false, f, e, rfl, by omega, HT12.out, HT2.out, HRB2.out, HM0, HN0, HU0⟩
        case round =>
          clear hw2 t3
          obtain ⟨k, F2, lv2, L2, fd', f', e', rfl, hk, hTn, hTx, hRBi, HMi, HNi, HUi⟩ := hrel
          by_cases hlk : k < L1.length
          · have hp1 : 1 ≤ F1 L1[k] := (HPl1.out.lst _).1 (List.getElem_mem hlk)
            have hpl : L1[k] < l.length := (HPl1.out.sound _ hp1).lt HR.out h0
            have hga : F1 L1[k] ≤ a + 1 := HPl1.out.le _
            obtain ⟨p, hp⟩ : ∃ p, p = L1[k] := ⟨_, rfl⟩
            obtain ⟨g, hg⟩ : ∃ g, F1 L1[k] = g + 1 := ⟨F1 L1[k] - 1, by omega⟩
            obtain ⟨x, hx⟩ : ∃ x, l[p]? = some x := ⟨l[p]'(by rw [hp]; exact hpl), List.getElem?_eq_getElem _⟩
            obtain ⟨gl, c3, e1, hc3, hc4⟩ := hTn.lo.formAt (by omega)
            injection e1 with e1 e2 e3
            subst e1 e3
            have y0 : wr.cell? ⟨gl, k, none⟩ = some (.int .i64 (p : Int)) := by rw [hp]; exact hTn.lo.at_ hlk
            have y1 : wr.cell? ⟨fb, p, none⟩ = some (.int .i64 ((g : Int) + 1)) := by
              have := hTn.row.cell L1[k] hpl
              rw [hg, Int.natCast_succ, ← hp] at this; exact this
            have hpl2 : p < l.length := by rw [hp]; exact hpl
            have y2 : wr.cell? ⟨fb + 1, 2, none⟩ = some (.slice (some ⟨fb, 0, none⟩) l.length l.length) := hTn.st.cell 2
            have c0 : wr.cell? ⟨w.heap.size + 1, 0, none⟩ = some (.int .i64 (f' : Int)) := hRBi.b.cell 0
            have c1 : wr.cell? ⟨w.heap.size + 1, 1, none⟩ = some (.int .i64 (e' : Int)) := hRBi.b.cell 1
            have c2 : wr.cell? ⟨w.heap.size + 1, 2, none⟩ = some (.bool fd') := hRBi.b.cell 2
            have j1 : (k : Int) < (L1.length : Int) := by omega
            have j2 : (p : Int) < (l.length : Int) := by omega
            have j3 : IntKind.i64.wrap (g : Int) = (g : Int) := IntWalk.i64_in _ (by omega)
            have j4 : IntKind.i64.wrap ((p : Int) + 1) = (p : Int) + 1 := IntWalk.i64_in _ (by omega)
            have j5 : (0 : Int) ≤ (p : Int) := by omega
            have j6 : (0 : Int) ≤ (a : Int) := by omega
            by_cases hsk : fd' = true ∧ f' < g
            · obtain ⟨rfl, hfg⟩ := hsk
              have d1 : (f' : Int) < (g : Int) := by omega
              have HMk : Hid (Mid l s.data.toList a F1 L1 false f (k + 1) true f' e') := HMi.out.pass hlk (.inl ⟨rfl, by omega⟩)
              have HNk : Hid (NxSt l s.data.toList a F1 L1 (k + 1) true f' F2 L2) := HNi.out.pass hlk (.inl ⟨rfl, by omega⟩)
              have HTn := Lib.hid hTn
              have HTx := Lib.hid hTx
              have HRBi := Lib.hid hRBi
              clear hTn hTx hRBi hp hg hx hp1 hpl hga hfg e2
              go_wp2_with fail
              go_roundw
              case rel => exact ⟨k + 1, F2, lv2, L2, true, f', e', by go_num, by omega, HTn.out, HTx.out, HRBi.out, HMk, HNk, HUi⟩
              case measure => simp [intOf]; omega
            · have HTn := Lib.hid hTn
              have HTx := Lib.hid hTx
              have HRBi := Lib.hid hRBi
              obtain ⟨ad, rfl, hbk, x0, x1, x2, x3, x4, x5, x6⟩ := (HP.out.below (hRBi.be.mono HB0.out)).at_ hx
              have hok := HP.out.ok x (List.mem_of_getElem? hx)
              obtain ⟨V, hV⟩ : ∃ V, wr.alloc (.cells #[.int .i64 x.k, .int .i64 x.a, .int .i64 x.b, .int .u64 (x.s.a : Int), .int .u64 (x.s.b : Int), .int .u64 (x.s.c : Int), .int .u64 (x.s.d : Int)] 35) = V := ⟨_, rfl⟩
              have hVb : Below wr.heap.size wr V := by rw [← hV]; exact (Below.refl _ _).alloc (Nat.le_refl _) _
              have hVk : Blk V wr.heap.size 35 #[.int .i64 x.k, .int .i64 x.a, .int .i64 x.b, .int .u64 (x.s.a : Int), .int .u64 (x.s.b : Int), .int .u64 (x.s.c : Int), .int .u64 (x.s.d : Int)] := by rw [← hV]; exact Blk.new _ _ _
              have v0 : V.cell? ⟨wr.heap.size, 0, none⟩ = some (.int .i64 x.k) := hVk.cell 0
              have v3 : V.cell? ⟨wr.heap.size, 3, none⟩ = some (.int .u64 (x.s.a : Int)) := hVk.cell 3
              have v4 : V.cell? ⟨wr.heap.size, 4, none⟩ = some (.int .u64 (x.s.b : Int)) := hVk.cell 4
              have v5 : V.cell? ⟨wr.heap.size, 5, none⟩ = some (.int .u64 (x.s.c : Int)) := hVk.cell 5
              have v6 : V.cell? ⟨wr.heap.size, 6, none⟩ = some (.int .u64 (x.s.d : Int)) := hVk.cell 6
              have HVK := Lib.hid hVk
              have hTnV := hTn.below (B := 0) hVb
              have hTxV := hTx.below (B := 0) hVb
              have hRBV := hRBi.kept hVb
              have HTnV := Lib.hid hTnV
              have HTxV := Lib.hid hTxV
              have HRBV := Lib.hid hRBV
              have hwl : w.heap.size + 1 < wr.heap.size := hRBi.lt
              have e0 : V.cell? ⟨w.heap.size + 1, 0, none⟩ = some (.int .i64 (f' : Int)) := hRBV.b.cell 0
              have e1 : V.cell? ⟨w.heap.size + 1, 1, none⟩ = some (.int .i64 (e' : Int)) := hRBV.b.cell 1
              have e2 : V.cell? ⟨w.heap.size + 1, 2, none⟩ = some (.bool fd') := hRBV.b.cell 2
              have g0 : V.frozen? ⟨w.heap.size + 1, 0, none⟩ = false := hRBV.b.frozen 0
              have g1 : V.frozen? ⟨w.heap.size + 1, 1, none⟩ = false := hRBV.b.frozen 1
              have g2 : V.frozen? ⟨w.heap.size + 1, 2, none⟩ = false := hRBV.b.frozen 2
              have HPV := Lib.hid (HP.out.below (hRBV.be.mono HB0.out))
              have hVl : wr.heap.size < V.heap.size := hVk.lt
              have hfd : fd' = false ∨ (fd' = true ∧ ¬ (f' : Int) < (g : Int)) := by
                cases fd' with
                | false => exact .inl rfl
                | true => exact .inr ⟨rfl, fun h => hsk ⟨rfl, by omega⟩⟩
              clear hTn hTx hRBi hVb hVk hTnV hTxV hRBV
              by_cases h6 : x.k = 6
              · have hmat : Mat l L1[k] := ⟨x, by rw [← hp]; exact hx, h6⟩
                have hsk2 : ¬ (fd' = true ∧ f' + 1 < F1 L1[k]) := fun h => hsk ⟨h.1, by have := h.2; omega⟩
                have HMk : Hid (Mid l s.data.toList a F1 L1 false f (k + 1) true g a) := by
                  have := Mid.hit HPl1.out HMi.out hlk (by rw [lst_len]; exact hlt) hsk2 hmat
                  rw [hg] at this; exact this
                have HSp : Hid (SpanP l s.data.toList g a) := (HMk.out.1 rfl).1
                have HNk : Hid (NxSt l s.data.toList a F1 L1 (k + 1) true g F2 L2) := (NxSt.sink HNi.out fun h => ⟨rfl, by
                  have h1 : ¬ f' < g := fun h2 => hsk ⟨h, h2⟩
                  omega⟩).pass hlk (.inr (not_byt (by rw [← hp]; exact hx) (.inl (by omega))))
                obtain ⟨V3, hV3⟩ : ∃ V3, ((V.setCell ⟨w.heap.size + 1, 0, none⟩ (.int .i64 (g : Int))).setCell ⟨w.heap.size + 1, 1, none⟩ (.int .i64 (a : Int))).setCell ⟨w.heap.size + 1, 2, none⟩ (.bool true) = V3 := ⟨_, rfl⟩
                have hRB3 := HRBV.out.put_ g a
                rw [hV3] at hRB3
                have hTn3 : Thr V3 fb l.length (some ad) c s F1 (.slice (some ⟨gl, 0, none⟩) L1.length c') L1 := by rw [← hV3]; exact ((HTnV.out.far (p := ⟨w.heap.size + 1, 0, none⟩) (by show w.heap.size + 1 < fb; omega) _).far (p := ⟨w.heap.size + 1, 1, none⟩) (by show w.heap.size + 1 < fb; omega) _).far (p := ⟨w.heap.size + 1, 2, none⟩) (by show w.heap.size + 1 < fb; omega) _
                have hTx3 : Thr V3 w1.heap.size l.length (some ad) c s F2 lv2 L2 := by rw [← hV3]; exact ((HTxV.out.far (p := ⟨w.heap.size + 1, 0, none⟩) (by show w.heap.size + 1 < w1.heap.size; omega) _).far (p := ⟨w.heap.size + 1, 1, none⟩) (by show w.heap.size + 1 < w1.heap.size; omega) _).far (p := ⟨w.heap.size + 1, 2, none⟩) (by show w.heap.size + 1 < w1.heap.size; omega) _
                have u0 : V3.cell? ⟨wr.heap.size, 0, none⟩ = some (.int .i64 6) := by
                  rw [← hV3, World.cell?_setCell_other _ _ _ _ (by intro h; injection h; omega), World.cell?_setCell_other _ _ _ _ (by intro h; injection h; omega), World.cell?_setCell_other _ _ _ _ (by intro h; injection h; omega), v0, h6]
                have HRB3 := Lib.hid hRB3
                have HTn3 := Lib.hid hTn3
                have HTx3 := Lib.hid hTx3
                have n0 : V3.cell? ⟨w.heap.size + 1, 0, none⟩ = some (.int .i64 (g : Int)) := hRB3.b.cell 0
                have n1 : V3.cell? ⟨w.heap.size + 1, 1, none⟩ = some (.int .i64 (a : Int)) := hRB3.b.cell 1
                have n2 : V3.cell? ⟨w.heap.size + 1, 2, none⟩ = some (.bool true) := hRB3.b.cell 2
                have r0 : V3.cell? ⟨w.heap.size, 0, none⟩ = some (.int .i64 0) := hRB3.res.cell 0
                have r1 : V3.cell? ⟨w.heap.size, 1, none⟩ = some (.int .i64 0) := hRB3.res.cell 1
                have r2 : V3.cell? ⟨w.heap.size, 2, none⟩ = some (.bool false) := hRB3.res.cell 2
                have s0 : V3.frozen? ⟨w.heap.size, 0, none⟩ = false := hRB3.res.frozen 0
                have s1 : V3.frozen? ⟨w.heap.size, 1, none⟩ = false := hRB3.res.frozen 1
                have s2 : V3.frozen? ⟨w.heap.size, 2, none⟩ = false := hRB3.res.frozen 2
                rw [h6] at v0
                have k6 : (x.k == 6) = true := by rw [beq_iff_eq]; exact h6
                clear hRB3 hTn3 hTx3 hsk hsk2 hmat hp hg hx hp1 hpl hga hok h6 k6
                rcases hfd with rfl | ⟨rfl, d1⟩
                · cases early with
                  | true =>
                    go_wp2_with fail
                    obtain ⟨wz, hwz, hz, z0, z1, z2⟩ := best_put HRB3.out (g : Int) (a : Int) true
                    rw [← hwz]
                    exact bodyPost_ret (v := .agg #[.int .i64 (g : Int), .int .i64 (a : Int), .bool true]) (by simp [results, Try.results50, go_sem, z0, z1, z2]) rfl ⟨g, a, true, rfl, fun h => (by cases h), fun _ => ⟨g, a, HSp.out⟩, fun h => (by cases h), hz⟩
                  | false =>
                    go_wp2_with fail
                    go_region
                    go_wp2_with fail
                    go_roundw
                    case rel => exact ⟨k + 1, F2, lv2, L2, true, g, a, by go_num, by omega, HTn3.out.drew, HTx3.out.drew, HRB3.out.drew, HMk, HNk, HUi⟩
                    case measure => simp [intOf]; omega
                · cases early with
                  | true =>
                    go_wp2_with fail
                    obtain ⟨wz, hwz, hz, z0, z1, z2⟩ := best_put HRB3.out (g : Int) (a : Int) true
                    rw [← hwz]
                    exact bodyPost_ret (v := .agg #[.int .i64 (g : Int), .int .i64 (a : Int), .bool true]) (by simp [results, Try.results50, go_sem, z0, z1, z2]) rfl ⟨g, a, true, rfl, fun h => (by cases h), fun _ => ⟨g, a, HSp.out⟩, fun h => (by cases h), hz⟩
                  | false =>
                    go_wp2_with fail
                    go_region
                    go_wp2_with fail
                    go_roundw
                    case rel => exact ⟨k + 1, F2, lv2, L2, true, g, a, by go_num, by omega, HTn3.out.drew, HTx3.out.drew, HRB3.out.drew, HMk, HNk, HUi⟩
                    case measure => simp [intOf]; omega
              · have HMk : Hid (Mid l s.data.toList a F1 L1 false f (k + 1) fd' f' e') := HMi.out.pass hlk (.inr (not_mat (by rw [← hp]; exact hx) h6))
                have k6 : (x.k == 6) = false := beq_eq_false_iff_ne.2 h6
                by_cases hgo : x.k = 1 ∧ a < s.size
                · obtain ⟨h1, hal⟩ := hgo
                  have hpn : p + 1 < l.length := by
                    have := HR.out p x hx
                    unfold RightI at this
                    omega
                  have q2 : (a : Int) < (s.size : Int) := by omega
                  have q3 : decide (a < s.size) = true := decide_eq_true hal
                  obtain ⟨cb1, cb2⟩ := byte_lt s[a]
                  have CH := Lib.hid fun w' => has_any x.s s[a].toNat hok (by omega) w'
                  cases hv : setB x.s s[a].toNat with
                  | false =>
                    have HNk : Hid (NxSt l s.data.toList a F1 L1 (k + 1) fd' f' F2 L2) := HNi.out.pass hlk (.inr (not_byt (by rw [← hp]; exact hx) (.inr (.inr ⟨by rw [lst_len]; exact hal, by rw [lst_get s a hal]; exact hv⟩))))
                    rw [hv] at CH
                    rw [h1] at v0
                    clear hsk hp hg hx hp1 hpl hga hok h6 hv hpn h1 k6
                    rcases hfd with rfl | ⟨rfl, d1⟩
                    · go_wp2_with fail
                      go_still_tail 15, (by kernel_rfl)
                      go_wp2_with fail
                      with_reducible refine (CH.out _).mono ?_
                      rintro y w3 ⟨rfl, hb3⟩
                      have HTn3 := Lib.hid (HTnV.out.drew.below (B := 0) hb3)
                      have HTx3 := Lib.hid (HTxV.out.drew.below (B := 0) hb3)
                      have HRB3 := Lib.hid (HRBV.out.drew.kept hb3)
                      clear hb3
                      go_wp2_with fail
                      go_roundw
                      case rel => exact ⟨k + 1, F2, lv2, L2, false, f', e', by go_num, by omega, HTn3.out, HTx3.out, HRB3.out, HMk, HNk, HUi⟩
                      case measure => simp [intOf]; omega
                    · go_wp2_with fail
                      go_still_tail 15, (by kernel_rfl)
                      go_wp2_with fail
                      with_reducible refine (CH.out _).mono ?_
                      rintro y w3 ⟨rfl, hb3⟩
                      have HTn3 := Lib.hid (HTnV.out.drew.below (B := 0) hb3)
                      have HTx3 := Lib.hid (HTxV.out.drew.below (B := 0) hb3)
                      have HRB3 := Lib.hid (HRBV.out.drew.kept hb3)
                      clear hb3
                      go_wp2_with fail
                      go_roundw
                      case rel => exact ⟨k + 1, F2, lv2, L2, true, f', e', by go_num, by omega, HTn3.out, HTx3.out, HRB3.out, HMk, HNk, HUi⟩
                      case measure => simp [intOf]; omega
                  | true =>
                    have hbyt : Byt l s.data.toList a L1[k] (p + 1) := ⟨x, by rw [← hp]; exact hx, h1, ⟨by rw [lst_len]; exact hal, by rw [lst_get s a hal]; exact hv⟩, by rw [← hp]⟩
                    have CA := Lib.hid fun w3 (hb3 : Below V.heap.size V w3) => add_any l (some ad) c B s w1.heap.size (p + 1) (a + 1) g F2 lv2 L2 w3 HR.out h4 (HPV.out.kept hb3) (by have := HB0.out; omega) (HTxV.out.below (B := 0) hb3) hpn (by have := HNi.out.clo; rwa [lst_len] at this) (fun q => by
                      have := HNi.out.le q L1[k] (by rw [List.drop_eq_getElem_cons hlk]; exact List.mem_cons_self)
                      rw [hg] at this; exact this) HUi.out (by omega) (by omega) hs
                    have HGo : Hid (∀ F' L', AddSt l s.size (a + 1) (p + 1) (g + 1) F2 L2 F' L' [] → NxSt l s.data.toList a F1 L1 (k + 1) fd' f' F' L') := fun F' L' h => NxSt.go HPl1.out HNi.out hlk hbyt (by rw [hg, lst_len]; exact h)
                    rw [hv] at CH
                    rw [h1] at v0
                    clear hsk hp hg hx hp1 hpl hga hok h6 hv hpn h1 k6 hbyt
                    rcases hfd with rfl | ⟨rfl, d1⟩
                    · go_wp2_with fail
                      go_still_tail 15, (by kernel_rfl)
                      go_wp2_with fail
                      with_reducible refine (CH.out _).mono ?_
                      rintro y w3 ⟨rfl, hb3⟩
                      have HTn3 := Lib.hid (HTnV.out.drew.below (B := 0) hb3)
                      have HRB3 := Lib.hid (HRBV.out.drew.kept hb3)
                      have hCA := CA.out w3 (((Below.refl _ _).drew).trans hb3)
                      rw [Int.natCast_succ, Int.natCast_succ] at hCA
                      have CA3 := Lib.hid hCA
                      clear hCA
                      clear hb3 CA
                      go_wp2_with fail
                      with_reducible refine CA3.out.mono ?_
                      rintro y w4 ⟨rfl, F3, lv3, L3, hT3, hA3, hc3, hb4⟩
                      have HTn4 := Lib.hid (HTn3.out.lower hb4 hfb1 HO.out)
                      have HTx4 := Lib.hid hT3
                      have HRB4 := Lib.hid (HRB3.out.below hb4 (by omega))
                      have HNk : Hid (NxSt l s.data.toList a F1 L1 (k + 1) false f' F3 L3) := HGo.out F3 L3 hA3
                      have HU3 := Lib.hid hc3
                      clear hb4 hT3 hA3 hc3
                      go_wp2_with fail
                      go_roundw
                      case rel => exact ⟨k + 1, F3, lv3, L3, false, f', e', by go_num, by omega, HTn4.out, HTx4.out, HRB4.out, HMk, HNk, HU3⟩
                      case measure => simp [intOf]; omega
                    · go_wp2_with fail
                      go_still_tail 15, (by kernel_rfl)
                      go_wp2_with fail
                      with_reducible refine (CH.out _).mono ?_
                      rintro y w3 ⟨rfl, hb3⟩
                      have HTn3 := Lib.hid (HTnV.out.drew.below (B := 0) hb3)
                      have HRB3 := Lib.hid (HRBV.out.drew.kept hb3)
                      have hCA := CA.out w3 (((Below.refl _ _).drew).trans hb3)
                      rw [Int.natCast_succ, Int.natCast_succ] at hCA
                      have CA3 := Lib.hid hCA
                      clear hCA
                      clear hb3 CA
                      go_wp2_with fail
                      with_reducible refine CA3.out.mono ?_
                      rintro y w4 ⟨rfl, F3, lv3, L3, hT3, hA3, hc3, hb4⟩
                      have HTn4 := Lib.hid (HTn3.out.lower hb4 hfb1 HO.out)
                      have HTx4 := Lib.hid hT3
                      have HRB4 := Lib.hid (HRB3.out.below hb4 (by omega))
                      have HNk : Hid (NxSt l s.data.toList a F1 L1 (k + 1) true f' F3 L3) := HGo.out F3 L3 hA3
                      have HU3 := Lib.hid hc3
                      clear hb4 hT3 hA3 hc3
                      go_wp2_with fail
                      go_roundw
                      case rel => exact ⟨k + 1, F3, lv3, L3, true, f', e', by go_num, by omega, HTn4.out, HTx4.out, HRB4.out, HMk, HNk, HU3⟩
                      case measure => simp [intOf]; omega
                · have HNk : Hid (NxSt l s.data.toList a F1 L1 (k + 1) fd' f' F2 L2) := HNi.out.pass hlk (.inr (not_byt (by rw [← hp]; exact hx) ((Decidable.em (x.k = 1)).elim (fun h => .inr (.inl (by rw [lst_len]; exact Nat.le_of_not_lt fun h2 => hgo ⟨h, h2⟩))) .inl)))
                  by_cases h1 : x.k = 1
                  · have q2 : ¬ (a : Int) < (s.size : Int) := by omega
                    have q3 : decide (a < s.size) = false := decide_eq_false (by omega)
                    rw [h1] at v0
                    clear hsk hp hg hx hp1 hpl hga hok h6 hgo h1 k6
                    rcases hfd with rfl | ⟨rfl, d1⟩
                    · go_wp2_with fail
                      go_region
                      go_wp2_with fail
                      go_roundw
                      case rel => exact ⟨k + 1, F2, lv2, L2, false, f', e', by go_num, by omega, HTnV.out.drew, HTxV.out.drew, HRBV.out.drew, HMk, HNk, HUi⟩
                      case measure => simp [intOf]; omega
                    · go_wp2_with fail
                      go_region
                      go_wp2_with fail
                      go_roundw
                      case rel => exact ⟨k + 1, F2, lv2, L2, true, f', e', by go_num, by omega, HTnV.out.drew, HTxV.out.drew, HRBV.out.drew, HMk, HNk, HUi⟩
                      case measure => simp [intOf]; omega
                  · have k1 : (x.k == 1) = false := beq_eq_false_iff_ne.2 h1
                    clear hsk hp hg hx hp1 hpl hga hok h6 hgo h1
                    rcases hfd with rfl | ⟨rfl, d1⟩
                    · go_wp2_with fail
                      go_region
                      go_wp2_with fail
                      go_roundw
                      case rel => exact ⟨k + 1, F2, lv2, L2, false, f', e', by go_num, by omega, HTnV.out.drew, HTxV.out.drew, HRBV.out.drew, HMk, HNk, HUi⟩
                      case measure => simp [intOf]; omega
                    · go_wp2_with fail
                      go_region
                      go_wp2_with fail
                      go_roundw
                      case rel => exact ⟨k + 1, F2, lv2, L2, true, f', e', by go_num, by omega, HTnV.out.drew, HTxV.out.drew, HRBV.out.drew, HMk, HNk, HUi⟩
                      case measure => simp [intOf]; omega
          · obtain rfl : k = L1.length := by omega
            have HPd : Hid (PlSt l s.data.toList (a + 1) (GB fd' f' (a + 1)) F2 L2) := NxSt.done HPl1.out HMi.out HNi.out (Nat.le_refl _)
            have HBd : Hid (Best l s.data.toList (a + 1) fd' f' e') := Mid.done HPl1.out HMi.out (Nat.le_refl _)
            have HTx := Lib.hid hTx
            have HRBi := Lib.hid hRBi
            clear hTn hTx hRBi
            go_wp2_with fail
            go_roundw
            case rel => exact ⟨a + 1, w1.heap.size, F2, lv2, L2, fd', f', e', rfl, by go_num, by omega, HTx.out, HRBi.out, by omega, HPd, HBd, HUi⟩
            case measure => simp [intOf]; omega
      | true =>
        obtain ⟨w1, hw1⟩ : ∃ w1, w1 = wr := ⟨_, rfl⟩
        rw [← hw1] at hT hRB b0 b1 b2 HT HRB hfbl ⊢
        clear hw1
        obtain ⟨F1, hF1⟩ : ∃ F1, F1 = F := ⟨_, rfl⟩
        obtain ⟨lv1, hlv1⟩ : ∃ lv1, lv1 = lv := ⟨_, rfl⟩
        obtain ⟨L1, hL1⟩ : ∃ L1, L1 = L := ⟨_, rfl⟩
        rw [← hF1, ← hlv1, ← hL1] at hT
        have hT1 := hT
        have HPl1 : Hid (PlSt l s.data.toList a (GB true f (a + 1)) F1 L1) := by rw [hF1, hL1]; exact HPl.out.old_
        have HU1 : Hid (L1.length + unm F1 l.length ≤ l.length) := by rw [hF1, hL1]; exact HU.out
        have hRB1 := hRB
        clear hT hRB hF1 hlv1 hL1 HT
        have hT2 := Thr.fresh w1 l.length A c s
        obtain ⟨w2, hw2⟩ : ∃ w2, (w1.alloc (.cells (madeCells #[.int .i64 0] l.length) 3)).alloc (.cells #[.slice A l.length c, .string s, .slice (some ⟨w1.heap.size, 0, none⟩) l.length l.length, .slice none 0 0] 138) = w2 := ⟨_, rfl⟩
        rw [hw2] at hT2
        have hb2 : Below w1.heap.size w1 w2 := by rw [← hw2]; exact ((Below.refl _ _).alloc (Nat.le_refl _) _).alloc (by simp) _
        have hT12 := hT1.below (B := 0) hb2
        have HO : Hid (∀ g, lv1.ownBlock = some g → g < w1.heap.size) := fun g h => (hT1.lo.lt_ g h).2
        have hfb1 : fb + 1 < w1.heap.size := hT1.st.lt
        have hRB2 := hRB1.kept hb2
        obtain ⟨A', c', e1⟩ := hT1.lo.form
        rw [nl_len] at e1
        subst e1
        have t3 : w2.cell? ⟨fb + 1, 3, none⟩ = some (.slice A' L1.length c') := hT12.st.cell 3
        have HT12 := Lib.hid hT12
        have HT2 := Lib.hid hT2
        have HRB2 := Lib.hid hRB2
        have HM0 : Hid (Mid l s.data.toList a F1 L1 true f 0 true f e) := Mid.start HBe.out
        have HN0 : Hid (NxSt l s.data.toList a F1 L1 0 true f (fun _ => 0) []) := NxSt.start
        clear hT1 hT2 hb2 hT12 hRB1 hRB2
        go_wp2_with fail
        go_loopw [47] (fun u wr => ∃ (k : Nat) (F2 : Nat → Nat) (lv2 : Value) (L2 : List Nat) (fd' : Bool) (f' e' : Nat), u = .int .i64 (k : Int) ∧ k ≤ L1.length ∧ Thr wr fb l.length A c s F1 (.slice A' L1.length c') L1 ∧ Thr wr w1.heap.size l.length A c s F2 lv2 L2 ∧ RuB w wr fd' f' e' ∧ Hid (Mid l s.data.toList a F1 L1 true f k fd' f' e') ∧ Hid (NxSt l s.data.toList a F1 L1 k fd' f' F2 L2) ∧ Hid (L2.length + unm F2 l.length ≤ l.length)) (fun u _ => L1.length - (intOf u).toNat)
        case atStart => exact ⟨0, fun _ => 0, .slice none 0 0, [], true, f, e, rfl, by omega, HT12.out, HT2.out, HRB2.out, HM0, HN0, HU0⟩
        case round =>
          clear hw2 t3
          obtain ⟨k, F2, lv2, L2, fd', f', e', rfl, hk, hTn, hTx, hRBi, HMi, HNi, HUi⟩ := hrel
          by_cases hlk : k < L1.length
          · have hp1 : 1 ≤ F1 L1[k] := (HPl1.out.lst _).1 (List.getElem_mem hlk)
            have hpl : L1[k] < l.length := (HPl1.out.sound _ hp1).lt HR.out h0
            have hga : F1 L1[k] ≤ a + 1 := HPl1.out.le _
            obtain ⟨p, hp⟩ : ∃ p, p = L1[k] := ⟨_, rfl⟩
            obtain ⟨g, hg⟩ : ∃ g, F1 L1[k] = g + 1 := ⟨F1 L1[k] - 1, by omega⟩
            obtain ⟨x, hx⟩ : ∃ x, l[p]? = some x := ⟨l[p]'(by rw [hp]; exact hpl), List.getElem?_eq_getElem _⟩
            obtain ⟨gl, c3, e1, hc3, hc4⟩ := hTn.lo.formAt (by omega)
            injection e1 with e1 e2 e3
            subst e1 e3
            have y0 : wr.cell? ⟨gl, k, none⟩ = some (.int .i64 (p : Int)) := by rw [hp]; exact hTn.lo.at_ hlk
            have y1 : wr.cell? ⟨fb, p, none⟩ = some (.int .i64 ((g : Int) + 1)) := by
              have := hTn.row.cell L1[k] hpl
              rw [hg, Int.natCast_succ, ← hp] at this; exact this
            have hpl2 : p < l.length := by rw [hp]; exact hpl
            have y2 : wr.cell? ⟨fb + 1, 2, none⟩ = some (.slice (some ⟨fb, 0, none⟩) l.length l.length) := hTn.st.cell 2
            have c0 : wr.cell? ⟨w.heap.size + 1, 0, none⟩ = some (.int .i64 (f' : Int)) := hRBi.b.cell 0
            have c1 : wr.cell? ⟨w.heap.size + 1, 1, none⟩ = some (.int .i64 (e' : Int)) := hRBi.b.cell 1
            have c2 : wr.cell? ⟨w.heap.size + 1, 2, none⟩ = some (.bool fd') := hRBi.b.cell 2
            have j1 : (k : Int) < (L1.length : Int) := by omega
            have j2 : (p : Int) < (l.length : Int) := by omega
            have j3 : IntKind.i64.wrap (g : Int) = (g : Int) := IntWalk.i64_in _ (by omega)
            have j4 : IntKind.i64.wrap ((p : Int) + 1) = (p : Int) + 1 := IntWalk.i64_in _ (by omega)
            have j5 : (0 : Int) ≤ (p : Int) := by omega
            have j6 : (0 : Int) ≤ (a : Int) := by omega
            by_cases hsk : fd' = true ∧ f' < g
            · obtain ⟨rfl, hfg⟩ := hsk
              have d1 : (f' : Int) < (g : Int) := by omega
              have HMk : Hid (Mid l s.data.toList a F1 L1 true f (k + 1) true f' e') := HMi.out.pass hlk (.inl ⟨rfl, by omega⟩)
              have HNk : Hid (NxSt l s.data.toList a F1 L1 (k + 1) true f' F2 L2) := HNi.out.pass hlk (.inl ⟨rfl, by omega⟩)
              have HTn := Lib.hid hTn
              have HTx := Lib.hid hTx
              have HRBi := Lib.hid hRBi
              clear hTn hTx hRBi hp hg hx hp1 hpl hga hfg e2
              go_wp2_with fail
              go_roundw
              case rel => exact ⟨k + 1, F2, lv2, L2, true, f', e', by go_num, by omega, HTn.out, HTx.out, HRBi.out, HMk, HNk, HUi⟩
              case measure => simp [intOf]; omega
            · have HTn := Lib.hid hTn
              have HTx := Lib.hid hTx
              have HRBi := Lib.hid hRBi
              obtain ⟨ad, rfl, hbk, x0, x1, x2, x3, x4, x5, x6⟩ := (HP.out.below (hRBi.be.mono HB0.out)).at_ hx
              have hok := HP.out.ok x (List.mem_of_getElem? hx)
              obtain ⟨V, hV⟩ : ∃ V, wr.alloc (.cells #[.int .i64 x.k, .int .i64 x.a, .int .i64 x.b, .int .u64 (x.s.a : Int), .int .u64 (x.s.b : Int), .int .u64 (x.s.c : Int), .int .u64 (x.s.d : Int)] 35) = V := ⟨_, rfl⟩
              have hVb : Below wr.heap.size wr V := by rw [← hV]; exact (Below.refl _ _).alloc (Nat.le_refl _) _
              have hVk : Blk V wr.heap.size 35 #[.int .i64 x.k, .int .i64 x.a, .int .i64 x.b, .int .u64 (x.s.a : Int), .int .u64 (x.s.b : Int), .int .u64 (x.s.c : Int), .int .u64 (x.s.d : Int)] := by rw [← hV]; exact Blk.new _ _ _
              have v0 : V.cell? ⟨wr.heap.size, 0, none⟩ = some (.int .i64 x.k) := hVk.cell 0
              have v3 : V.cell? ⟨wr.heap.size, 3, none⟩ = some (.int .u64 (x.s.a : Int)) := hVk.cell 3
              have v4 : V.cell? ⟨wr.heap.size, 4, none⟩ = some (.int .u64 (x.s.b : Int)) := hVk.cell 4
              have v5 : V.cell? ⟨wr.heap.size, 5, none⟩ = some (.int .u64 (x.s.c : Int)) := hVk.cell 5
              have v6 : V.cell? ⟨wr.heap.size, 6, none⟩ = some (.int .u64 (x.s.d : Int)) := hVk.cell 6
              have HVK := Lib.hid hVk
              have hTnV := hTn.below (B := 0) hVb
              have hTxV := hTx.below (B := 0) hVb
              have hRBV := hRBi.kept hVb
              have HTnV := Lib.hid hTnV
              have HTxV := Lib.hid hTxV
              have HRBV := Lib.hid hRBV
              have hwl : w.heap.size + 1 < wr.heap.size := hRBi.lt
              have e0 : V.cell? ⟨w.heap.size + 1, 0, none⟩ = some (.int .i64 (f' : Int)) := hRBV.b.cell 0
              have e1 : V.cell? ⟨w.heap.size + 1, 1, none⟩ = some (.int .i64 (e' : Int)) := hRBV.b.cell 1
              have e2 : V.cell? ⟨w.heap.size + 1, 2, none⟩ = some (.bool fd') := hRBV.b.cell 2
              have g0 : V.frozen? ⟨w.heap.size + 1, 0, none⟩ = false := hRBV.b.frozen 0
              have g1 : V.frozen? ⟨w.heap.size + 1, 1, none⟩ = false := hRBV.b.frozen 1
              have g2 : V.frozen? ⟨w.heap.size + 1, 2, none⟩ = false := hRBV.b.frozen 2
              have HPV := Lib.hid (HP.out.below (hRBV.be.mono HB0.out))
              have hVl : wr.heap.size < V.heap.size := hVk.lt
              have hfd : fd' = false ∨ (fd' = true ∧ ¬ (f' : Int) < (g : Int)) := by
                cases fd' with
                | false => exact .inl rfl
                | true => exact .inr ⟨rfl, fun h => hsk ⟨rfl, by omega⟩⟩
              clear hTn hTx hRBi hVb hVk hTnV hTxV hRBV
              by_cases h6 : x.k = 6
              · have hmat : Mat l L1[k] := ⟨x, by rw [← hp]; exact hx, h6⟩
                have hsk2 : ¬ (fd' = true ∧ f' + 1 < F1 L1[k]) := fun h => hsk ⟨h.1, by have := h.2; omega⟩
                have HMk : Hid (Mid l s.data.toList a F1 L1 true f (k + 1) true g a) := by
                  have := Mid.hit HPl1.out HMi.out hlk (by rw [lst_len]; exact hlt) hsk2 hmat
                  rw [hg] at this; exact this
                have HSp : Hid (SpanP l s.data.toList g a) := (HMk.out.1 rfl).1
                have HNk : Hid (NxSt l s.data.toList a F1 L1 (k + 1) true g F2 L2) := (NxSt.sink HNi.out fun h => ⟨rfl, by
                  have h1 : ¬ f' < g := fun h2 => hsk ⟨h, h2⟩
                  omega⟩).pass hlk (.inr (not_byt (by rw [← hp]; exact hx) (.inl (by omega))))
                obtain ⟨V3, hV3⟩ : ∃ V3, ((V.setCell ⟨w.heap.size + 1, 0, none⟩ (.int .i64 (g : Int))).setCell ⟨w.heap.size + 1, 1, none⟩ (.int .i64 (a : Int))).setCell ⟨w.heap.size + 1, 2, none⟩ (.bool true) = V3 := ⟨_, rfl⟩
                have hRB3 := HRBV.out.put_ g a
                rw [hV3] at hRB3
                have hTn3 : Thr V3 fb l.length (some ad) c s F1 (.slice (some ⟨gl, 0, none⟩) L1.length c') L1 := by rw [← hV3]; exact ((HTnV.out.far (p := ⟨w.heap.size + 1, 0, none⟩) (by show w.heap.size + 1 < fb; omega) _).far (p := ⟨w.heap.size + 1, 1, none⟩) (by show w.heap.size + 1 < fb; omega) _).far (p := ⟨w.heap.size + 1, 2, none⟩) (by show w.heap.size + 1 < fb; omega) _
                have hTx3 : Thr V3 w1.heap.size l.length (some ad) c s F2 lv2 L2 := by rw [← hV3]; exact ((HTxV.out.far (p := ⟨w.heap.size + 1, 0, none⟩) (by show w.heap.size + 1 < w1.heap.size; omega) _).far (p := ⟨w.heap.size + 1, 1, none⟩) (by show w.heap.size + 1 < w1.heap.size; omega) _).far (p := ⟨w.heap.size + 1, 2, none⟩) (by show w.heap.size + 1 < w1.heap.size; omega) _
                have u0 : V3.cell? ⟨wr.heap.size, 0, none⟩ = some (.int .i64 6) := by
                  rw [← hV3, World.cell?_setCell_other _ _ _ _ (by intro h; injection h; omega), World.cell?_setCell_other _ _ _ _ (by intro h; injection h; omega), World.cell?_setCell_other _ _ _ _ (by intro h; injection h; omega), v0, h6]
                have HRB3 := Lib.hid hRB3
                have HTn3 := Lib.hid hTn3
                have HTx3 := Lib.hid hTx3
                have n0 : V3.cell? ⟨w.heap.size + 1, 0, none⟩ = some (.int .i64 (g : Int)) := hRB3.b.cell 0
                have n1 : V3.cell? ⟨w.heap.size + 1, 1, none⟩ = some (.int .i64 (a : Int)) := hRB3.b.cell 1
                have n2 : V3.cell? ⟨w.heap.size + 1, 2, none⟩ = some (.bool true) := hRB3.b.cell 2
                have r0 : V3.cell? ⟨w.heap.size, 0, none⟩ = some (.int .i64 0) := hRB3.res.cell 0
                have r1 : V3.cell? ⟨w.heap.size, 1, none⟩ = some (.int .i64 0) := hRB3.res.cell 1
                have r2 : V3.cell? ⟨w.heap.size, 2, none⟩ = some (.bool false) := hRB3.res.cell 2
                have s0 : V3.frozen? ⟨w.heap.size, 0, none⟩ = false := hRB3.res.frozen 0
                have s1 : V3.frozen? ⟨w.heap.size, 1, none⟩ = false := hRB3.res.frozen 1
                have s2 : V3.frozen? ⟨w.heap.size, 2, none⟩ = false := hRB3.res.frozen 2
                rw [h6] at v0
                have k6 : (x.k == 6) = true := by rw [beq_iff_eq]; exact h6
                clear hRB3 hTn3 hTx3 hsk hsk2 hmat hp hg hx hp1 hpl hga hok h6 k6
                rcases hfd with rfl | ⟨rfl, d1⟩
                · cases early with
                  | true =>
                    go_wp2_with fail
                    obtain ⟨wz, hwz, hz, z0, z1, z2⟩ := best_put HRB3.out (g : Int) (a : Int) true
                    rw [← hwz]
                    exact bodyPost_ret (v := .agg #[.int .i64 (g : Int), .int .i64 (a : Int), .bool true]) (by simp [results, Try.results50, go_sem, z0, z1, z2]) rfl ⟨g, a, true, rfl, fun h => (by cases h), fun _ => ⟨g, a, HSp.out⟩, fun h => (by cases h), hz⟩
                  | false =>
                    go_wp2_with fail
                    go_region
                    go_wp2_with fail
                    go_roundw
                    case rel => exact ⟨k + 1, F2, lv2, L2, true, g, a, by go_num, by omega, HTn3.out.drew, HTx3.out.drew, HRB3.out.drew, HMk, HNk, HUi⟩
                    case measure => simp [intOf]; omega
                · cases early with
                  | true =>
                    go_wp2_with fail
                    obtain ⟨wz, hwz, hz, z0, z1, z2⟩ := best_put HRB3.out (g : Int) (a : Int) true
                    rw [← hwz]
                    exact bodyPost_ret (v := .agg #[.int .i64 (g : Int), .int .i64 (a : Int), .bool true]) (by simp [results, Try.results50, go_sem, z0, z1, z2]) rfl ⟨g, a, true, rfl, fun h => (by cases h), fun _ => ⟨g, a, HSp.out⟩, fun h => (by cases h), hz⟩
                  | false =>
                    go_wp2_with fail
                    go_region
                    go_wp2_with fail
                    go_roundw
                    case rel => exact ⟨k + 1, F2, lv2, L2, true, g, a, by go_num, by omega, HTn3.out.drew, HTx3.out.drew, HRB3.out.drew, HMk, HNk, HUi⟩
                    case measure => simp [intOf]; omega
              · have HMk : Hid (Mid l s.data.toList a F1 L1 true f (k + 1) fd' f' e') := HMi.out.pass hlk (.inr (not_mat (by rw [← hp]; exact hx) h6))
                have k6 : (x.k == 6) = false := beq_eq_false_iff_ne.2 h6
                by_cases hgo : x.k = 1 ∧ a < s.size
                · obtain ⟨h1, hal⟩ := hgo
                  have hpn : p + 1 < l.length := by
                    have := HR.out p x hx
                    unfold RightI at this
                    omega
                  have q2 : (a : Int) < (s.size : Int) := by omega
                  have q3 : decide (a < s.size) = true := decide_eq_true hal
                  obtain ⟨cb1, cb2⟩ := byte_lt s[a]
                  have CH := Lib.hid fun w' => has_any x.s s[a].toNat hok (by omega) w'
                  cases hv : setB x.s s[a].toNat with
                  | false =>
                    have HNk : Hid (NxSt l s.data.toList a F1 L1 (k + 1) fd' f' F2 L2) := HNi.out.pass hlk (.inr (not_byt (by rw [← hp]; exact hx) (.inr (.inr ⟨by rw [lst_len]; exact hal, by rw [lst_get s a hal]; exact hv⟩))))
                    rw [hv] at CH
                    rw [h1] at v0
                    clear hsk hp hg hx hp1 hpl hga hok h6 hv hpn h1 k6
                    rcases hfd with rfl | ⟨rfl, d1⟩
                    · go_wp2_with fail
                      go_still_tail 15, (by kernel_rfl)
                      go_wp2_with fail
                      with_reducible refine (CH.out _).mono ?_
                      rintro y w3 ⟨rfl, hb3⟩
                      have HTn3 := Lib.hid (HTnV.out.drew.below (B := 0) hb3)
                      have HTx3 := Lib.hid (HTxV.out.drew.below (B := 0) hb3)
                      have HRB3 := Lib.hid (HRBV.out.drew.kept hb3)
                      clear hb3
                      go_wp2_with fail
                      go_roundw
                      case rel => exact ⟨k + 1, F2, lv2, L2, false, f', e', by go_num, by omega, HTn3.out, HTx3.out, HRB3.out, HMk, HNk, HUi⟩
                      case measure => simp [intOf]; omega
                    · go_wp2_with fail
                      go_still_tail 15, (by kernel_rfl)
                      go_wp2_with fail
                      with_reducible refine (CH.out _).mono ?_
                      rintro y w3 ⟨rfl, hb3⟩
                      have HTn3 := Lib.hid (HTnV.out.drew.below (B := 0) hb3)
                      have HTx3 := Lib.hid (HTxV.out.drew.below (B := 0) hb3)
                      have HRB3 := Lib.hid (HRBV.out.drew.kept hb3)
                      clear hb3
                      go_wp2_with fail
                      go_roundw
                      case rel => exact ⟨k + 1, F2, lv2, L2, true, f', e', by go_num, by omega, HTn3.out, HTx3.out, HRB3.out, HMk, HNk, HUi⟩
                      case measure => simp [intOf]; omega
                  | true =>
                    have hbyt : Byt l s.data.toList a L1[k] (p + 1) := ⟨x, by rw [← hp]; exact hx, h1, ⟨by rw [lst_len]; exact hal, by rw [lst_get s a hal]; exact hv⟩, by rw [← hp]⟩
                    have CA := Lib.hid fun w3 (hb3 : Below V.heap.size V w3) => add_any l (some ad) c B s w1.heap.size (p + 1) (a + 1) g F2 lv2 L2 w3 HR.out h4 (HPV.out.kept hb3) (by have := HB0.out; omega) (HTxV.out.below (B := 0) hb3) hpn (by have := HNi.out.clo; rwa [lst_len] at this) (fun q => by
                      have := HNi.out.le q L1[k] (by rw [List.drop_eq_getElem_cons hlk]; exact List.mem_cons_self)
                      rw [hg] at this; exact this) HUi.out (by omega) (by omega) hs
                    have HGo : Hid (∀ F' L', AddSt l s.size (a + 1) (p + 1) (g + 1) F2 L2 F' L' [] → NxSt l s.data.toList a F1 L1 (k + 1) fd' f' F' L') := fun F' L' h => NxSt.go HPl1.out HNi.out hlk hbyt (by rw [hg, lst_len]; exact h)
                    rw [hv] at CH
                    rw [h1] at v0
                    clear hsk hp hg hx hp1 hpl hga hok h6 hv hpn h1 k6 hbyt
                    rcases hfd with rfl | ⟨rfl, d1⟩
                    · go_wp2_with fail
                      go_still_tail 15, (by kernel_rfl)
                      go_wp2_with fail
                      with_reducible refine (CH.out _).mono ?_
                      rintro y w3 ⟨rfl, hb3⟩
                      have HTn3 := Lib.hid (HTnV.out.drew.below (B := 0) hb3)
                      have HRB3 := Lib.hid (HRBV.out.drew.kept hb3)
                      have hCA := CA.out w3 (((Below.refl _ _).drew).trans hb3)
                      rw [Int.natCast_succ, Int.natCast_succ] at hCA
                      have CA3 := Lib.hid hCA
                      clear hCA
                      clear hb3 CA
                      go_wp2_with fail
                      with_reducible refine CA3.out.mono ?_
                      rintro y w4 ⟨rfl, F3, lv3, L3, hT3, hA3, hc3, hb4⟩
                      have HTn4 := Lib.hid (HTn3.out.lower hb4 hfb1 HO.out)
                      have HTx4 := Lib.hid hT3
                      have HRB4 := Lib.hid (HRB3.out.below hb4 (by omega))
                      have HNk : Hid (NxSt l s.data.toList a F1 L1 (k + 1) false f' F3 L3) := HGo.out F3 L3 hA3
                      have HU3 := Lib.hid hc3
                      clear hb4 hT3 hA3 hc3
                      go_wp2_with fail
                      go_roundw
                      case rel => exact ⟨k + 1, F3, lv3, L3, false, f', e', by go_num, by omega, HTn4.out, HTx4.out, HRB4.out, HMk, HNk, HU3⟩
                      case measure => simp [intOf]; omega
                    · go_wp2_with fail
                      go_still_tail 15, (by kernel_rfl)
                      go_wp2_with fail
                      with_reducible refine (CH.out _).mono ?_
                      rintro y w3 ⟨rfl, hb3⟩
                      have HTn3 := Lib.hid (HTnV.out.drew.below (B := 0) hb3)
                      have HRB3 := Lib.hid (HRBV.out.drew.kept hb3)
                      have hCA := CA.out w3 (((Below.refl _ _).drew).trans hb3)
                      rw [Int.natCast_succ, Int.natCast_succ] at hCA
                      have CA3 := Lib.hid hCA
                      clear hCA
                      clear hb3 CA
                      go_wp2_with fail
                      with_reducible refine CA3.out.mono ?_
                      rintro y w4 ⟨rfl, F3, lv3, L3, hT3, hA3, hc3, hb4⟩
                      have HTn4 := Lib.hid (HTn3.out.lower hb4 hfb1 HO.out)
                      have HTx4 := Lib.hid hT3
                      have HRB4 := Lib.hid (HRB3.out.below hb4 (by omega))
                      have HNk : Hid (NxSt l s.data.toList a F1 L1 (k + 1) true f' F3 L3) := HGo.out F3 L3 hA3
                      have HU3 := Lib.hid hc3
                      clear hb4 hT3 hA3 hc3
                      go_wp2_with fail
                      go_roundw
                      case rel => exact ⟨k + 1, F3, lv3, L3, true, f', e', by go_num, by omega, HTn4.out, HTx4.out, HRB4.out, HMk, HNk, HU3⟩
                      case measure => simp [intOf]; omega
                · have HNk : Hid (NxSt l s.data.toList a F1 L1 (k + 1) fd' f' F2 L2) := HNi.out.pass hlk (.inr (not_byt (by rw [← hp]; exact hx) ((Decidable.em (x.k = 1)).elim (fun h => .inr (.inl (by rw [lst_len]; exact Nat.le_of_not_lt fun h2 => hgo ⟨h, h2⟩))) .inl)))
                  by_cases h1 : x.k = 1
                  · have q2 : ¬ (a : Int) < (s.size : Int) := by omega
                    have q3 : decide (a < s.size) = false := decide_eq_false (by omega)
                    rw [h1] at v0
                    clear hsk hp hg hx hp1 hpl hga hok h6 hgo h1 k6
                    rcases hfd with rfl | ⟨rfl, d1⟩
                    · go_wp2_with fail
                      go_region
                      go_wp2_with fail
                      go_roundw
                      case rel => exact ⟨k + 1, F2, lv2, L2, false, f', e', by go_num, by omega, HTnV.out.drew, HTxV.out.drew, HRBV.out.drew, HMk, HNk, HUi⟩
                      case measure => simp [intOf]; omega
                    · go_wp2_with fail
                      go_region
                      go_wp2_with fail
                      go_roundw
                      case rel => exact ⟨k + 1, F2, lv2, L2, true, f', e', by go_num, by omega, HTnV.out.drew, HTxV.out.drew, HRBV.out.drew, HMk, HNk, HUi⟩
                      case measure => simp [intOf]; omega
                  · have k1 : (x.k == 1) = false := beq_eq_false_iff_ne.2 h1
                    clear hsk hp hg hx hp1 hpl hga hok h6 hgo h1
                    rcases hfd with rfl | ⟨rfl, d1⟩
                    · go_wp2_with fail
                      go_region
                      go_wp2_with fail
                      go_roundw
                      case rel => exact ⟨k + 1, F2, lv2, L2, false, f', e', by go_num, by omega, HTnV.out.drew, HTxV.out.drew, HRBV.out.drew, HMk, HNk, HUi⟩
                      case measure => simp [intOf]; omega
                    · go_wp2_with fail
                      go_region
                      go_wp2_with fail
                      go_roundw
                      case rel => exact ⟨k + 1, F2, lv2, L2, true, f', e', by go_num, by omega, HTnV.out.drew, HTxV.out.drew, HRBV.out.drew, HMk, HNk, HUi⟩
                      case measure => simp [intOf]; omega
          · obtain rfl : k = L1.length := by omega
            have HPd : Hid (PlSt l s.data.toList (a + 1) (GB fd' f' (a + 1)) F2 L2) := NxSt.done HPl1.out HMi.out HNi.out (Nat.le_refl _)
            have HBd : Hid (Best l s.data.toList (a + 1) fd' f' e') := Mid.done HPl1.out HMi.out (Nat.le_refl _)
            have HTx := Lib.hid hTx
            have HRBi := Lib.hid hRBi
            clear hTn hTx hRBi
            go_wp2_with fail
            go_roundw
            case rel => exact ⟨a + 1, w1.heap.size, F2, lv2, L2, fd', f', e', rfl, by go_num, by omega, HTx.out, HRBi.out, by omega, HPd, HBd, HUi⟩
            case measure => simp [intOf]; omega
    · obtain rfl : a = s.size + 1 := by omega
      have i1 : ¬ ((s.size : Int) + 1) ≤ (s.size : Int) := by omega
      have r0 : wr.cell? ⟨w.heap.size, 0, none⟩ = some (.int .i64 0) := hRB.res.cell 0
      have r1 : wr.cell? ⟨w.heap.size, 1, none⟩ = some (.int .i64 0) := hRB.res.cell 1
      have r2 : wr.cell? ⟨w.heap.size, 2, none⟩ = some (.bool false) := hRB.res.cell 2
      have f0 : wr.frozen? ⟨w.heap.size, 0, none⟩ = false := hRB.res.frozen 0
      have f1 : wr.frozen? ⟨w.heap.size, 1, none⟩ = false := hRB.res.frozen 1
      have f2 : wr.frozen? ⟨w.heap.size, 2, none⟩ = false := hRB.res.frozen 2
      have HRB := Lib.hid hRB
      have HF : Hid (FirstR (SpanP l s.data.toList) f e fd) := Best.first (by rw [lst_len]; exact HBe.out)
      clear hT hRB ha hlt
      go_wp2_with fail
      obtain ⟨wz, hwz, hz, z0, z1, z2⟩ := best_put HRB.out (f : Int) (e : Int) fd
      rw [← hwz]
      refine bodyPost_ret (v := .agg #[.int .i64 (f : Int), .int .i64 (e : Int), .bool fd]) (by simp [results, Try.results50, go_sem, z0, z1, z2]) rfl (RunRes.of_first HF.out hz)
end
end Go.Proofs.Ytckinkapbfaceaa
