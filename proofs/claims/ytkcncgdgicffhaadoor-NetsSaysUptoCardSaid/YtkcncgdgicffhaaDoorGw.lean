/- Walk: wickref.Net. (printed by gen_netd.py) -/
import Derived.Test.YtkcncgdgicffhaaDoorGv
namespace Go.Proofs.YtkcncgdgicffhaaDoor
open Go.RowKit
set_option linter.unusedVariables false
set_option linter.unusedSimpArgs false

theorem mskB_of {b : Int} (h0 : 0 ≤ b) (h1 : b ≤ 32) : (mskB b : Int) = b := by unfold mskB; omega
theorem low_zero {a : Nat} {b : Int} (h0 : 0 ≤ b) (h1 : b ≤ 32) (h : ∀ j : Nat, (j : Int) < 32 - b → a.testBit j = false) : a % 2 ^ (32 - mskB b) = 0 :=
  (mod_zero a _).2 fun i hi => h i (by have := mskB_of h0 h1; omega)
theorem low_one {a p : Nat} {b : Int} (h0 : 0 ≤ b) (h1 : b ≤ 32) (hp : (p : Int) < 32 - b) (h : a.testBit p = true) : ¬ a % 2 ^ (32 - mskB b) = 0 := fun e => by
  have := (mod_zero a _).1 e p (by have := mskB_of h0 h1; omega)
  rw [h] at this; cases this
section
variable (s : ByteArray) (w : World)
set_option maxRecDepth 100000 in
set_option maxHeartbeats 4000000 in
theorem Net_any (hs : s.size ≤ 1048576) :
    Calls Tryd.prog 34 #[.string s] w (NetRes (netR s) w) := by
  obtain ⟨R, hR⟩ : ∃ R, R = netR s := ⟨_, rfl⟩
  rw [← hR]
  have H1 := Lib.hid fun h => hR.trans (net_bits (s := s) h)
  have H2 := Lib.hid fun h h2 => hR.trans (net_parts (s := s) h h2)
  have H3 := Lib.hid fun h h2 h3 => hR.trans (net_none (s := s) h h2 h3)
  have H4 := Lib.hid fun a h h2 h3 h4 => hR.trans (net_ok (s := s) (a := a) h h2 h3 h4)
  have H5 := Lib.hid fun a h h2 h3 h4 => hR.trans (net_bad (s := s) (a := a) h h2 h3 h4)
  obtain ⟨W, hW⟩ : ∃ W, w.alloc (.cells #[.int .u32 0, .int .i64 0] 70) = W := ⟨_, rfl⟩
  have hZ : Nz w W := by rw [← hW]; exact Nz.start w
  have hcz := cutS_size s ⟨#[47]⟩
  have CC := rsplit_any s ⟨#[47]⟩ W (by omega) (by decide)
  obtain ⟨c1, c2, c3, hc⟩ : ∃ c1 c2 c3, cutS s ⟨#[47]⟩ = (c1, c2, c3) := ⟨_, _, _, rfl⟩
  rw [hc] at CC hcz
  dsimp only at CC hcz
  obtain ⟨hz1, hz2⟩ := hcz
  have HB : Hid (btS s = if c3 = true then smN c2 32 else 32) := Lib.hid (by unfold btS slS; rw [hc])
  have HPt : Hid (ptS s = pcs c1 ⟨#[46]⟩) := Lib.hid (by unfold ptS slS; rw [hc])
  have CN := Lib.hid fun w' => small_any c2 32 w' (by unfold maxLen; omega)
  have CS := Lib.hid fun w' => pieces_any c1 ⟨#[46]⟩ w' (by omega) (by decide) (by decide)
  have CC := Lib.hid CC
  have HZ := Lib.hid hZ
  have hbd := smN_bd c2 32 (by omega)
  obtain ⟨b, hb⟩ : ∃ b, b = smN c2 32 := ⟨_, rfl⟩
  rw [← hb] at hbd HB CN
  obtain ⟨hbd1, hbd2⟩ := hbd
  clear hR hZ hc hb
  cases c3 with
  | true =>
    have HBt : Hid (btS s = b) := Lib.hid (by rw [HB.out, if_pos rfl])
    by_cases hb : b < 0
    · have HR := Lib.hid (H1.out (by rw [HBt.out]; exact hb))
      have d1 : decide (b < 0) = true := decide_eq_true hb
      clear hb
      go_enter Tryd.func34, Tryd.ntmps34
      go_wp2_with fail
      refine CC.out.mono ?_
      rintro e w1 ⟨rfl, q1, hq1⟩
      have hZ1 := HZ.out.step (by rw [hq1]; exact below_drewN (Below.refl _ _) q1 : Below W.heap.size W w1)
      have hgz : w.heap.size < w1.heap.size := hZ1.lt
      have hZ2 := hZ1.step ((Below.refl w1.heap.size w1).alloc (Nat.le_refl _) (.cells #[.int .u32 0, .int .i64 32] 70))
      have hK2 := Blk.new w1 70 #[.int .u32 0, .int .i64 32]
      clear hq1 hW CC HZ hZ1
      go_upto_region 3 with fail
      obtain ⟨V, hV⟩ : ∃ V, w1.alloc (.cells #[.int .u32 0, .int .i64 32] 70) = V := ⟨_, rfl⟩
      rw [hV] at hZ2 hK2 ⊢
      clear hV
      obtain ⟨g, hg⟩ : ∃ g, w1.heap.size = g := ⟨_, rfl⟩
      rw [hg] at hgz hK2 ⊢
      clear hg
      have HZ2 := Lib.hid hZ2
      have HK2 := Lib.hid hK2
      clear hZ2 hK2
      go_wp2_with fail
      refine (CN.out _).mono ?_
      rintro e w2 ⟨rfl, q2, hq2⟩
      have hb2 : Below V.heap.size V w2 := by rw [hq2]; exact below_drewN (Below.refl _ _) q2
      have hZ3 := HZ2.out.step hb2
      have hK3 := HK2.out.below hb2 HK2.out.lt
      have m0 : w2.cell? ⟨g, 0, none⟩ = some (.int .u32 0) := hK3.cell 0
      have m1 : w2.cell? ⟨g, 1, none⟩ = some (.int .i64 32) := hK3.cell 1
      have mf : w2.frozen? ⟨g, 1, none⟩ = false := hK3.frozen 1
      have hZ4 := hZ3.far (p := ⟨g, 1, none⟩) hgz (.int .i64 b)
      have hK4 := hK3.set_ 1 (.int .i64 b)
      clear hq2 hb2 hZ3 hK3 HZ2 HK2
      obtain ⟨r0, r1, f0, f1⟩ := hZ4.facts
      clear hK4
      obtain ⟨wz, hwz, hbz, z0, z1⟩ := hZ4.put (.int .u32 0) (.int .i64 0)
      go_wp2_with fail
      rw [← hwz]
      exact bodyPost_ret (v := .tuple #[.agg #[.int .u32 0, .int .i64 0], .int .i64 3]) (by simp [results, Tryd.results34, go_sem, z0, z1]) rfl ⟨by rw [HR.out]; rfl, hbz⟩
    · have d1 : decide (b < 0) = false := decide_eq_false hb
      go_enter Tryd.func34, Tryd.ntmps34
      go_wp2_with fail
      refine CC.out.mono ?_
      rintro e w1 ⟨rfl, q1, hq1⟩
      have hZ1 := HZ.out.step (by rw [hq1]; exact below_drewN (Below.refl _ _) q1 : Below W.heap.size W w1)
      have hgz : w.heap.size < w1.heap.size := hZ1.lt
      have hZ2 := hZ1.step ((Below.refl w1.heap.size w1).alloc (Nat.le_refl _) (.cells #[.int .u32 0, .int .i64 32] 70))
      have hK2 := Blk.new w1 70 #[.int .u32 0, .int .i64 32]
      clear hq1 hW CC HZ hZ1
      go_upto_region 3 with fail
      obtain ⟨V, hV⟩ : ∃ V, w1.alloc (.cells #[.int .u32 0, .int .i64 32] 70) = V := ⟨_, rfl⟩
      rw [hV] at hZ2 hK2 ⊢
      clear hV
      obtain ⟨g, hg⟩ : ∃ g, w1.heap.size = g := ⟨_, rfl⟩
      rw [hg] at hgz hK2 ⊢
      clear hg
      have HZ2 := Lib.hid hZ2
      have HK2 := Lib.hid hK2
      clear hZ2 hK2
      go_wp2_with fail
      refine (CN.out _).mono ?_
      rintro e w2 ⟨rfl, q2, hq2⟩
      have hb2 : Below V.heap.size V w2 := by rw [hq2]; exact below_drewN (Below.refl _ _) q2
      have hZ3 := HZ2.out.step hb2
      have hK3 := HK2.out.below hb2 HK2.out.lt
      have m0 : w2.cell? ⟨g, 0, none⟩ = some (.int .u32 0) := hK3.cell 0
      have m1 : w2.cell? ⟨g, 1, none⟩ = some (.int .i64 32) := hK3.cell 1
      have mf : w2.frozen? ⟨g, 1, none⟩ = false := hK3.frozen 1
      have hZ4 := hZ3.far (p := ⟨g, 1, none⟩) hgz (.int .i64 b)
      have hK4 := hK3.set_ 1 (.int .i64 b)
      clear hq2 hb2 hZ3 hK3 HZ2 HK2
      go_upto_region 7 with fail
      obtain ⟨w4, hw4⟩ : ∃ w4, w2.setCell ⟨g, 1, none⟩ (.int .i64 b) = w4 := ⟨_, rfl⟩
      rw [hw4] at hZ4 hK4 ⊢
      clear hw4 m0 m1 mf
      have HZn := Lib.hid hZ4
      have HKn : Hid (Blk w4 g 70 #[.int .u32 0, .int .i64 b]) := Lib.hid hK4
      clear hZ4 hK4
      obtain ⟨l, hl⟩ : ∃ l, l = pcs c1 ⟨#[46]⟩ := ⟨_, rfl⟩
      have hlm := pcs_mem ⟨#[46]⟩ (by decide) c1.size c1 (Nat.le_refl _)
      have CSp := CS.out w4
      rw [← hl] at CSp hlm
      have HPl : Hid (ptS s = l) := Lib.hid (HPt.out.trans hl.symm)
      have CSp := Lib.hid CSp
      have HLM := Lib.hid hlm
      have hgn : g < w4.heap.size := HKn.out.lt
      clear hl hlm
      go_wp2_with fail
      refine CSp.out.mono ?_
      rintro e w3 ⟨v, rfl, ho3, b3⟩
      obtain ⟨A, c, rfl⟩ := ho3.form
      have hZ3 := HZn.out.step b3
      have hK3 := HKn.out.below b3 hgn
      clear b3 HZn HKn CSp
      by_cases h4 : l.length = 4
      · have hne : ((l.length : Int) != 4) = false := by rw [h4]; rfl
        obtain ⟨gl, rfl, hgB, hgs, hgc, hcell⟩ := ho3.at_ (by omega)
        have HZ4 := Lib.hid hZ3
        have HO4 := Lib.hid ho3
        have HK4 := Lib.hid hK3
        have hlt : g < gl := by omega
        have H4L := Lib.hid h4
        have h4a : l.length ≤ 4 := by omega
        have h4b : 4 ≤ l.length := by omega
        have HA0 : Hid (adrF (l.drop 0) 0 = adrF l 0) := Lib.hid rfl
        clear hcell ho3 hZ3 hK3 h4
        go_wp2_with fail
        go_loopw [9] (fun u wr => ∃ k a : Nat, u = .int .i64 (k : Int) ∧ k ≤ 4 ∧ Nz w wr ∧ Blk wr g 70 #[.int .u32 a, .int .i64 b] ∧ OS wr w4.heap.size (.slice (some ⟨gl, 0, none⟩) l.length c) l ∧ Hid (a < 256 ^ k) ∧ Hid (adrF (l.drop k) a = adrF l 0)) (fun u _ => 4 - (intOf u).toNat)
        case atStart => exact ⟨0, 0, rfl, by omega, HZ4.out, HK4.out, HO4.out, by show 0 < 256 ^ 0; decide, HA0.out⟩
        case round =>
          obtain ⟨k, a, rfl, hk, hz, hkb, ho, HA, HF⟩ := hrel
          have n0 : wr.cell? ⟨g, 0, none⟩ = some (.int .u32 a) := hkb.cell 0
          have n1 : wr.cell? ⟨g, 1, none⟩ = some (.int .i64 b) := hkb.cell 1
          have nf : wr.frozen? ⟨g, 0, none⟩ = false := hkb.frozen 0
          have HZr := Lib.hid hz
          have HKr := Lib.hid hkb
          have HOr := Lib.hid ho
          by_cases hkl : k < 4
          · have ha := adr_le HA.out (by omega)
            have i1 : (k : Int) < (l.length : Int) := by omega
            obtain ⟨x, hx⟩ : ∃ x, l[k]? = some x := ⟨l[k]'(by omega), List.getElem?_eq_getElem (by omega)⟩
            obtain ⟨g', hg', _, _, _, hcell⟩ := ho.at_ (by omega)
            injection hg' with hg'
            injection hg' with hg1 hg2 hg3
            subst hg1
            have y0 : wr.cell? ⟨gl, k, none⟩ = some (.string x) := by
              have := hcell k (by omega)
              rw [List.getElem?_eq_getElem (by omega)] at hx
              injection hx with hx
              rw [this, hx]
            have hxz : x.size ≤ 1048576 := by
              have := HLM.out x (List.mem_of_getElem? hx); omega
            have CX := fun w' => small_any x 255 w' (by unfold maxLen; omega)
            have hxb := smN_bd x 255 (by omega)
            obtain ⟨N, hN⟩ : ∃ N, smN x 255 = N := ⟨_, rfl⟩
            have HXX := Lib.hid hx
            rw [hN] at CX hxb
            have CX := Lib.hid CX
            obtain ⟨nb1, nb2⟩ := hxb
            clear hcell hx hz hkb ho
            by_cases hn : N < 0
            · have HR := Lib.hid (H3.out (by rw [HBt.out]; omega) (by rw [HPl.out]; exact H4L.out) (by rw [HPl.out, ← HF.out]; exact adrF_no HXX.out (by omega)))
              have d1 : decide (N < 0) = true := decide_eq_true hn
              clear hn hN
              go_wp2_with fail
              refine (CX.out _).mono ?_
              rintro e w5 ⟨rfl, q5, hq5⟩
              have hZ5 := HZr.out.step (by rw [hq5]; exact below_drewN (Below.refl _ _) q5 : Below wr.heap.size wr w5)
              obtain ⟨r0, r1, f0, f1⟩ := hZ5.facts
              have HZ5 := Lib.hid hZ5
              clear hq5 hZ5
              obtain ⟨wz, hwz, hbz, z0, z1⟩ := HZ5.out.put (.int .u32 0) (.int .i64 0)
              go_wp2_with fail
              rw [← hwz]
              exact bodyPost_ret (v := .tuple #[.agg #[.int .u32 0, .int .i64 0], .int .i64 3]) (by simp [results, Tryd.results34, go_sem, z0, z1]) rfl ⟨by rw [HR.out]; rfl, hbz⟩
            · obtain ⟨n, rfl⟩ := Int.eq_ofNat_of_zero_le (show 0 ≤ N by omega)
              have d1 : decide ((n : Int) < 0) = false := decide_eq_false hn
              have hn255 : n < 256 := by omega
              have HF2 : Hid (adrF (l.drop (k + 1)) (a * 256 + n) = adrF l 0) := Lib.hid ((adrF_go HXX.out hN).symm.trans HF.out)
              have HA2 := Lib.hid (adr_step HA.out hn255)
              have js : IntKind.u32.wrap ((a : Int) * 256) = (a : Int) * 256 := IntWalk.u32_in _ ⟨by omega, by omega⟩
              have js2 : (a : Int) * 256 % 4294967296 = (a : Int) * 256 := by omega
              have jn : IntKind.u32.wrap (n : Int) = (n : Int) := IntWalk.u32_in _ ⟨by omega, by omega⟩
              have jn2 : (n : Int) % 4294967296 = (n : Int) := by omega
              have ja : IntKind.u32.wrap ((a : Int) * 256 + (n : Int)) = ((a * 256 + n : Nat) : Int) := by rw [IntWalk.u32_in _ ⟨by omega, by omega⟩]; omega
              have ja2 : ((a : Int) * 256 + (n : Int)) % 4294967296 = ((a * 256 + n : Nat) : Int) := by omega
              clear hn hN
              go_wp2_with fail
              refine (CX.out _).mono ?_
              rintro e w5 ⟨rfl, q5, hq5⟩
              have b5 : Below wr.heap.size wr w5 := by rw [hq5]; exact below_drewN (Below.refl _ _) q5
              have hZ5 := HZr.out.step b5
              have hK5 := HKr.out.below b5 HKr.out.lt
              have hO5 := HOr.out.kept b5
              have n0' : w5.cell? ⟨g, 0, none⟩ = some (.int .u32 a) := hK5.cell 0
              have nf' : w5.frozen? ⟨g, 0, none⟩ = false := hK5.frozen 0
              have hZ6 := hZ5.far (p := ⟨g, 0, none⟩) hgz (.int .u32 ((a * 256 + n : Nat) : Int))
              have hK6 := hK5.set_ 0 (.int .u32 ((a * 256 + n : Nat) : Int))
              have hO6 := hO5.far (p := ⟨g, 0, none⟩) (fun g' hg => by
                simp only [Value.ownBlock, Option.some.injEq] at hg
                show g' ≠ g
                omega) (.int .u32 ((a * 256 + n : Nat) : Int))
              have HZ6 := Lib.hid hZ6
              have HK6 := Lib.hid hK6
              have HO6 := Lib.hid hO6
              clear hq5 b5 hZ5 hK5 hO5 hZ6 hK6 hO6
              go_wp2_with fail
              go_roundw
              case rel => exact ⟨k + 1, a * 256 + n, by go_num, by omega, HZ6.out, HK6.out, HO6.out, HA2, HF2⟩
              case measure => simp [intOf]; omega
          · obtain rfl : k = 4 := by omega
            have ha := adr_le4 HA.out (by omega)
            have HF4 : Hid (adrF l 0 = some a) := Lib.hid (by rw [← HF.out, List.drop_eq_nil_of_le (by omega)]; rfl)
            have b0 : (0 : Int) ≤ b := by omega
            have b32 : (b : Int) ≤ 32 := by omega
            have HR4 := Lib.hid fun (h : a % 2 ^ (32 - mskB b) = 0) => H4.out a (by rw [HBt.out]; omega) (by rw [HPl.out]; exact H4L.out) (by rw [HPl.out]; exact HF4.out) (by rw [HBt.out]; exact h)
            have HR5 := Lib.hid fun (h : ¬ a % 2 ^ (32 - mskB b) = 0) => H5.out a (by rw [HBt.out]; omega) (by rw [HPl.out]; exact H4L.out) (by rw [HPl.out]; exact HF4.out) (by rw [HBt.out]; exact h)
            clear hz hkb ho
            go_wp2_with fail
            go_loopw [11] (fun u wr => ∃ k : Nat, u = .int .i64 (k : Int) ∧ k ≤ 32 ∧ (b : Int) ≤ k ∧ Nz w wr ∧ Blk wr g 70 #[.int .u32 a, .int .i64 b] ∧ Hid (∀ j : Nat, 32 - k ≤ j → (j : Int) < 32 - b → a.testBit j = false)) (fun u _ => 32 - (intOf u).toNat)
            case atStart => exact ⟨(b : Int).toNat, by go_num, by omega, by omega, HZr.out, HKr.out, fun j h1 h2 => absurd h2 (by omega)⟩
            case round =>
              obtain ⟨k, rfl, hk, hbk, hz, hkb, HS⟩ := hrel
              have n0 : wr.cell? ⟨g, 0, none⟩ = some (.int .u32 a) := hkb.cell 0
              have n1 : wr.cell? ⟨g, 1, none⟩ = some (.int .i64 b) := hkb.cell 1
              obtain ⟨r0, r1, f0, f1⟩ := hz.facts
              have HZr := Lib.hid hz
              have HKr := Lib.hid hkb
              clear hkb
              by_cases hkl : k < 32
              · have d0 : decide ((k : Int) < 32) = true := decide_eq_true (by omega)
                have d0' : decide (k < 32) = true := decide_eq_true hkl
                have j1 : IntKind.i64.wrap ((31 : Int) - (k : Int)) = (31 : Int) - (k : Int) := IntWalk.i64_in _ (by omega)
                have i1 : (0 : Int) ≤ (31 : Int) - (k : Int) := by omega
                obtain ⟨p, hp⟩ : ∃ p : Nat, p = 31 - k := ⟨_, rfl⟩
                have j2 : ((31 : Int) - (k : Int)).toNat = p := by omega
                have hpk := Lib.hid hp
                clear hp
                have hps : p < 32 := by have := hpk.out; omega
                obtain ⟨x, hx⟩ : ∃ x, a.testBit p = x := ⟨_, rfl⟩
                have ex := bit_as hx
                cases x with
                | true =>
                  have HR := Lib.hid (HR5.out (low_one b0 b32 (by have := hpk.out; omega) hx))
                  clear hx
                  obtain ⟨wz, hwz, hbz, z0, z1⟩ := hz.put (.int .u32 0) (.int .i64 0)
                  go_wp2_with fail
                  rw [← hwz]
                  exact bodyPost_ret (v := .tuple #[.agg #[.int .u32 0, .int .i64 0], .int .i64 4]) (by simp [results, Tryd.results34, go_sem, z0, z1]) rfl ⟨by rw [HR.out]; rfl, hbz⟩
                | false =>
                  have HS2 : Hid (∀ j : Nat, 32 - (k + 1) ≤ j → (j : Int) < 32 - b → a.testBit j = false) := fun j h1 h2 => by
                    by_cases e : j = p
                    · rw [e, hx]
                    · exact HS.out j (by have := hpk.out; omega) h2
                  clear hx hz
                  go_wp2_with fail
                  go_roundw
                  case rel => exact ⟨k + 1, by go_num, by omega, by omega, HZr.out, HKr.out, HS2⟩
                  case measure => simp [intOf]; omega
              · obtain rfl : k = 32 := by omega
                have HR := Lib.hid (HR4.out (low_zero b0 b32 fun j h => HS.out j (by omega) h))
                obtain ⟨wz, hwz, hbz, z0, z1⟩ := hz.put (.int .u32 a) (.int .i64 b)
                clear hz
                go_wp2_with fail
                rw [← hwz]
                exact bodyPost_ret (v := .tuple #[.agg #[.int .u32 a, .int .i64 b], .int .i64 0]) (by simp [results, Tryd.results34, go_sem, z0, z1]) rfl ⟨by rw [HR.out, HBt.out], hbz⟩
      · have HR := Lib.hid (H2.out (by rw [HBt.out]; omega) (by rw [HPl.out]; exact h4))
        have hne : ((l.length : Int) != 4) = true := by rw [bne_iff_ne]; omega
        obtain ⟨r0, r1, f0, f1⟩ := hZ3.facts
        clear ho3 h4
        obtain ⟨wz, hwz, hbz, z0, z1⟩ := hZ3.put (.int .u32 0) (.int .i64 0)
        go_wp2_with fail
        rw [← hwz]
        exact bodyPost_ret (v := .tuple #[.agg #[.int .u32 0, .int .i64 0], .int .i64 3]) (by simp [results, Tryd.results34, go_sem, z0, z1]) rfl ⟨by rw [HR.out]; rfl, hbz⟩
  | false =>
    have HBt : Hid (btS s = 32) := Lib.hid (by rw [HB.out, if_neg (by decide)])
    go_enter Tryd.func34, Tryd.ntmps34
    go_wp2_with fail
    refine CC.out.mono ?_
    rintro e w1 ⟨rfl, q1, hq1⟩
    have hZ1 := HZ.out.step (by rw [hq1]; exact below_drewN (Below.refl _ _) q1 : Below W.heap.size W w1)
    have hgz : w.heap.size < w1.heap.size := hZ1.lt
    have hZ2 := hZ1.step ((Below.refl w1.heap.size w1).alloc (Nat.le_refl _) (.cells #[.int .u32 0, .int .i64 32] 70))
    have hK2 := Blk.new w1 70 #[.int .u32 0, .int .i64 32]
    clear hq1 hW CC HZ hZ1
    go_upto_region 3 with fail
    obtain ⟨V, hV⟩ : ∃ V, w1.alloc (.cells #[.int .u32 0, .int .i64 32] 70) = V := ⟨_, rfl⟩
    rw [hV] at hZ2 hK2 ⊢
    clear hV
    obtain ⟨g, hg⟩ : ∃ g, w1.heap.size = g := ⟨_, rfl⟩
    rw [hg] at hgz hK2 ⊢
    clear hg
    have HZ2 := Lib.hid hZ2
    have HK2 := Lib.hid hK2
    clear hZ2 hK2
    go_upto_region 7 with fail
    have HZn := HZ2
    have HKn := HK2
    clear HZ2 HK2
    obtain ⟨l, hl⟩ : ∃ l, l = pcs c1 ⟨#[46]⟩ := ⟨_, rfl⟩
    have hlm := pcs_mem ⟨#[46]⟩ (by decide) c1.size c1 (Nat.le_refl _)
    have CSp := CS.out V
    rw [← hl] at CSp hlm
    have HPl : Hid (ptS s = l) := Lib.hid (HPt.out.trans hl.symm)
    have CSp := Lib.hid CSp
    have HLM := Lib.hid hlm
    have hgn : g < V.heap.size := HKn.out.lt
    clear hl hlm
    go_wp2_with fail
    refine CSp.out.mono ?_
    rintro e w3 ⟨v, rfl, ho3, b3⟩
    obtain ⟨A, c, rfl⟩ := ho3.form
    have hZ3 := HZn.out.step b3
    have hK3 := HKn.out.below b3 hgn
    clear b3 HZn HKn CSp
    by_cases h4 : l.length = 4
    · have hne : ((l.length : Int) != 4) = false := by rw [h4]; rfl
      obtain ⟨gl, rfl, hgB, hgs, hgc, hcell⟩ := ho3.at_ (by omega)
      have HZ4 := Lib.hid hZ3
      have HO4 := Lib.hid ho3
      have HK4 := Lib.hid hK3
      have hlt : g < gl := by omega
      have H4L := Lib.hid h4
      have h4a : l.length ≤ 4 := by omega
      have h4b : 4 ≤ l.length := by omega
      have HA0 : Hid (adrF (l.drop 0) 0 = adrF l 0) := Lib.hid rfl
      clear hcell ho3 hZ3 hK3 h4
      go_wp2_with fail
      go_loopw [9] (fun u wr => ∃ k a : Nat, u = .int .i64 (k : Int) ∧ k ≤ 4 ∧ Nz w wr ∧ Blk wr g 70 #[.int .u32 a, .int .i64 32] ∧ OS wr V.heap.size (.slice (some ⟨gl, 0, none⟩) l.length c) l ∧ Hid (a < 256 ^ k) ∧ Hid (adrF (l.drop k) a = adrF l 0)) (fun u _ => 4 - (intOf u).toNat)
      case atStart => exact ⟨0, 0, rfl, by omega, HZ4.out, HK4.out, HO4.out, by show 0 < 256 ^ 0; decide, HA0.out⟩
      case round =>
        obtain ⟨k, a, rfl, hk, hz, hkb, ho, HA, HF⟩ := hrel
        have n0 : wr.cell? ⟨g, 0, none⟩ = some (.int .u32 a) := hkb.cell 0
        have n1 : wr.cell? ⟨g, 1, none⟩ = some (.int .i64 32) := hkb.cell 1
        have nf : wr.frozen? ⟨g, 0, none⟩ = false := hkb.frozen 0
        have HZr := Lib.hid hz
        have HKr := Lib.hid hkb
        have HOr := Lib.hid ho
        by_cases hkl : k < 4
        · have ha := adr_le HA.out (by omega)
          have i1 : (k : Int) < (l.length : Int) := by omega
          obtain ⟨x, hx⟩ : ∃ x, l[k]? = some x := ⟨l[k]'(by omega), List.getElem?_eq_getElem (by omega)⟩
          obtain ⟨g', hg', _, _, _, hcell⟩ := ho.at_ (by omega)
          injection hg' with hg'
          injection hg' with hg1 hg2 hg3
          subst hg1
          have y0 : wr.cell? ⟨gl, k, none⟩ = some (.string x) := by
            have := hcell k (by omega)
            rw [List.getElem?_eq_getElem (by omega)] at hx
            injection hx with hx
            rw [this, hx]
          have hxz : x.size ≤ 1048576 := by
            have := HLM.out x (List.mem_of_getElem? hx); omega
          have CX := fun w' => small_any x 255 w' (by unfold maxLen; omega)
          have hxb := smN_bd x 255 (by omega)
          obtain ⟨N, hN⟩ : ∃ N, smN x 255 = N := ⟨_, rfl⟩
          have HXX := Lib.hid hx
          rw [hN] at CX hxb
          have CX := Lib.hid CX
          obtain ⟨nb1, nb2⟩ := hxb
          clear hcell hx hz hkb ho
          by_cases hn : N < 0
          · have HR := Lib.hid (H3.out (by rw [HBt.out]; omega) (by rw [HPl.out]; exact H4L.out) (by rw [HPl.out, ← HF.out]; exact adrF_no HXX.out (by omega)))
            have d1 : decide (N < 0) = true := decide_eq_true hn
            clear hn hN
            go_wp2_with fail
            refine (CX.out _).mono ?_
            rintro e w5 ⟨rfl, q5, hq5⟩
            have hZ5 := HZr.out.step (by rw [hq5]; exact below_drewN (Below.refl _ _) q5 : Below wr.heap.size wr w5)
            obtain ⟨r0, r1, f0, f1⟩ := hZ5.facts
            have HZ5 := Lib.hid hZ5
            clear hq5 hZ5
            obtain ⟨wz, hwz, hbz, z0, z1⟩ := HZ5.out.put (.int .u32 0) (.int .i64 0)
            go_wp2_with fail
            rw [← hwz]
            exact bodyPost_ret (v := .tuple #[.agg #[.int .u32 0, .int .i64 0], .int .i64 3]) (by simp [results, Tryd.results34, go_sem, z0, z1]) rfl ⟨by rw [HR.out]; rfl, hbz⟩
          · obtain ⟨n, rfl⟩ := Int.eq_ofNat_of_zero_le (show 0 ≤ N by omega)
            have d1 : decide ((n : Int) < 0) = false := decide_eq_false hn
            have hn255 : n < 256 := by omega
            have HF2 : Hid (adrF (l.drop (k + 1)) (a * 256 + n) = adrF l 0) := Lib.hid ((adrF_go HXX.out hN).symm.trans HF.out)
            have HA2 := Lib.hid (adr_step HA.out hn255)
            have js : IntKind.u32.wrap ((a : Int) * 256) = (a : Int) * 256 := IntWalk.u32_in _ ⟨by omega, by omega⟩
            have js2 : (a : Int) * 256 % 4294967296 = (a : Int) * 256 := by omega
            have jn : IntKind.u32.wrap (n : Int) = (n : Int) := IntWalk.u32_in _ ⟨by omega, by omega⟩
            have jn2 : (n : Int) % 4294967296 = (n : Int) := by omega
            have ja : IntKind.u32.wrap ((a : Int) * 256 + (n : Int)) = ((a * 256 + n : Nat) : Int) := by rw [IntWalk.u32_in _ ⟨by omega, by omega⟩]; omega
            have ja2 : ((a : Int) * 256 + (n : Int)) % 4294967296 = ((a * 256 + n : Nat) : Int) := by omega
            clear hn hN
            go_wp2_with fail
            refine (CX.out _).mono ?_
            rintro e w5 ⟨rfl, q5, hq5⟩
            have b5 : Below wr.heap.size wr w5 := by rw [hq5]; exact below_drewN (Below.refl _ _) q5
            have hZ5 := HZr.out.step b5
            have hK5 := HKr.out.below b5 HKr.out.lt
            have hO5 := HOr.out.kept b5
            have n0' : w5.cell? ⟨g, 0, none⟩ = some (.int .u32 a) := hK5.cell 0
            have nf' : w5.frozen? ⟨g, 0, none⟩ = false := hK5.frozen 0
            have hZ6 := hZ5.far (p := ⟨g, 0, none⟩) hgz (.int .u32 ((a * 256 + n : Nat) : Int))
            have hK6 := hK5.set_ 0 (.int .u32 ((a * 256 + n : Nat) : Int))
            have hO6 := hO5.far (p := ⟨g, 0, none⟩) (fun g' hg => by
              simp only [Value.ownBlock, Option.some.injEq] at hg
              show g' ≠ g
              omega) (.int .u32 ((a * 256 + n : Nat) : Int))
            have HZ6 := Lib.hid hZ6
            have HK6 := Lib.hid hK6
            have HO6 := Lib.hid hO6
            clear hq5 b5 hZ5 hK5 hO5 hZ6 hK6 hO6
            go_wp2_with fail
            go_roundw
            case rel => exact ⟨k + 1, a * 256 + n, by go_num, by omega, HZ6.out, HK6.out, HO6.out, HA2, HF2⟩
            case measure => simp [intOf]; omega
        · obtain rfl : k = 4 := by omega
          have ha := adr_le4 HA.out (by omega)
          have HF4 : Hid (adrF l 0 = some a) := Lib.hid (by rw [← HF.out, List.drop_eq_nil_of_le (by omega)]; rfl)
          have b0 : (0 : Int) ≤ 32 := by omega
          have b32 : (32 : Int) ≤ 32 := by omega
          have HR4 := Lib.hid fun (h : a % 2 ^ (32 - mskB 32) = 0) => H4.out a (by rw [HBt.out]; omega) (by rw [HPl.out]; exact H4L.out) (by rw [HPl.out]; exact HF4.out) (by rw [HBt.out]; exact h)
          have HR5 := Lib.hid fun (h : ¬ a % 2 ^ (32 - mskB 32) = 0) => H5.out a (by rw [HBt.out]; omega) (by rw [HPl.out]; exact H4L.out) (by rw [HPl.out]; exact HF4.out) (by rw [HBt.out]; exact h)
          clear hz hkb ho
          go_wp2_with fail
          go_loopw [11] (fun u wr => ∃ k : Nat, u = .int .i64 (k : Int) ∧ k ≤ 32 ∧ (32 : Int) ≤ k ∧ Nz w wr ∧ Blk wr g 70 #[.int .u32 a, .int .i64 32] ∧ Hid (∀ j : Nat, 32 - k ≤ j → (j : Int) < 32 - 32 → a.testBit j = false)) (fun u _ => 32 - (intOf u).toNat)
          case atStart => exact ⟨(32 : Int).toNat, by go_num, by omega, by omega, HZr.out, HKr.out, fun j h1 h2 => absurd h2 (by omega)⟩
          case round =>
            obtain ⟨k, rfl, hk, hbk, hz, hkb, HS⟩ := hrel
            have n0 : wr.cell? ⟨g, 0, none⟩ = some (.int .u32 a) := hkb.cell 0
            have n1 : wr.cell? ⟨g, 1, none⟩ = some (.int .i64 32) := hkb.cell 1
            obtain ⟨r0, r1, f0, f1⟩ := hz.facts
            have HZr := Lib.hid hz
            have HKr := Lib.hid hkb
            clear hkb
            by_cases hkl : k < 32
            · exact absurd hbk (by omega)
            · obtain rfl : k = 32 := by omega
              have HR := Lib.hid (HR4.out (low_zero b0 b32 fun j h => HS.out j (by omega) h))
              obtain ⟨wz, hwz, hbz, z0, z1⟩ := hz.put (.int .u32 a) (.int .i64 32)
              clear hz
              go_wp2_with fail
              rw [← hwz]
              exact bodyPost_ret (v := .tuple #[.agg #[.int .u32 a, .int .i64 32], .int .i64 0]) (by simp [results, Tryd.results34, go_sem, z0, z1]) rfl ⟨by rw [HR.out, HBt.out], hbz⟩
    · have HR := Lib.hid (H2.out (by rw [HBt.out]; omega) (by rw [HPl.out]; exact h4))
      have hne : ((l.length : Int) != 4) = true := by rw [bne_iff_ne]; omega
      obtain ⟨r0, r1, f0, f1⟩ := hZ3.facts
      clear ho3 h4
      obtain ⟨wz, hwz, hbz, z0, z1⟩ := hZ3.put (.int .u32 0) (.int .i64 0)
      go_wp2_with fail
      rw [← hwz]
      exact bodyPost_ret (v := .tuple #[.agg #[.int .u32 0, .int .i64 0], .int .i64 3]) (by simp [results, Tryd.results34, go_sem, z0, z1]) rfl ⟨by rw [HR.out]; rfl, hbz⟩
end
end Go.Proofs.YtkcncgdgicffhaaDoor
