/- Walk: wickref.RexText. (Printed by gen_rsyh.py.) -/
import Derived.Test.YtckinkapbfaceaaRsyG
import Derived.Test.YtckinkapbfaceaaSbC
namespace Go.Proofs.Ytckinkapbfaceaa
open Go.RowKit
set_option linter.unusedVariables false
set_option linter.unusedSimpArgs false

/-- the box of an expression that is a set of bytes -/
abbrev RB (w wr : World) (q : Q4) (A5 : Option Addr) (cap5 : Nat) : Prop := ShB w wr #[.int .i64 3, .int .u64 (q.a : Int), .int .u64 (q.b : Int), .int .u64 (q.c : Int), .int .u64 (q.d : Int), .slice A5 0 cap5]
structure Z4 (w wr : World) (q : Q4) : Prop where
  y0 : wr.cell? ⟨w.heap.size, 1, none⟩ = some (.int .u64 (q.a : Int))
  y1 : wr.cell? ⟨w.heap.size, 2, none⟩ = some (.int .u64 (q.b : Int))
  y2 : wr.cell? ⟨w.heap.size, 3, none⟩ = some (.int .u64 (q.c : Int))
  y3 : wr.cell? ⟨w.heap.size, 4, none⟩ = some (.int .u64 (q.d : Int))
theorem rb_z4 {w wr : World} {q : Q4} {A5 : Option Addr} {cap5 : Nat} (h : RB w wr q A5 cap5) : Z4 w wr q := ⟨h.blk.cell 1, h.blk.cell 2, h.blk.cell 3, h.blk.cell 4⟩
theorem text2_cf (p : Addr) (b : Int) (w' : World) : (callFunc 70 #[.int .i64 b, .pointer (some p)]).run Try.prog w' = .ok (.enter 70 #[.int .i64 b, .pointer (some p)]) w' := by kernel_rfl
theorem nset_any (q : Q4) (A5 : Option Addr) (cap5 : Nat) (w wr : World) (b : Nat) (hb : b ≤ 255) (h : RB w wr q A5 cap5) :
    Calls Try.prog 70 #[.int .i64 (b : Int), .pointer (some ⟨w.heap.size, 0, none⟩)] wr fun e w'' => e = .returned (.bool (notF (setB q) b)) ∧ Below wr.heap.size wr w'' := by
  obtain ⟨y0, y1, y2, y3⟩ := rb_z4 h
  have C := is_any q b hb wr
  obtain ⟨v, hv⟩ : ∃ v, v = setB q b := ⟨_, rfl⟩
  rw [← hv] at C
  have HN : Hid (notF (setB q) b = !v) := by show _ = _; rw [hv]; rfl
  have C := Lib.hid C
  clear h hv
  go_enter Try.func70, Try.ntmps70
  go_wp2_with fail
  refine C.out.mono ?_
  rintro e w1 ⟨rfl, hb1⟩
  have HB1 := Lib.hid hb1
  clear hb1
  go_wp2_with fail
  go_ret
  exact ⟨by rw [HN.out]; rfl, HB1.out⟩
theorem nset_same {q qn : Q4} (h : SetOf qn (notF (setB q))) : itemsF (setB qn) = itemsF (notF (setB q)) := itemsK_congr (fun j hj => h.2 j hj) 256 (Nat.le_refl _)
set_option maxRecDepth 100000 in
set_option maxHeartbeats 8000000 in
theorem rtext_byte (q : Q4) (hq : q.ok) (w : World) (A5 : Option Addr) (cap5 : Nat) :
    Calls Try.prog 35 #[.agg #[.int .i64 3, .int .u64 (q.a : Int), .int .u64 (q.b : Int), .int .u64 (q.c : Int), .int .u64 (q.d : Int), .slice A5 0 cap5]] w fun e w' => e = .returned (.string (str (bytesF (setB q)))) ∧ Below w.heap.size w w' := by
  have hbx := ShB.new w #[.int .i64 3, .int .u64 (q.a : Int), .int .u64 (q.b : Int), .int .u64 (q.c : Int), .int .u64 (q.d : Int), .slice A5 0 cap5]
  obtain ⟨W, hW⟩ : ∃ W, w.alloc (.cells #[.int .i64 3, .int .u64 (q.a : Int), .int .u64 (q.b : Int), .int .u64 (q.c : Int), .int .u64 (q.d : Int), .slice A5 0 cap5] 27) = W := ⟨_, rfl⟩
  rw [hW] at hbx
  have HBX : Hid (RB w W q A5 cap5) := hbx
  have b0 : W.cell? ⟨w.heap.size, 0, none⟩ = some (.int .i64 3) := hbx.blk.cell 0
  have CH := Lib.hid fun (j : Nat) (hj : j ≤ 255) w' => is_any q j hj w'
  have CI0 := fun w' => Items_any q w'
  have CW := Lib.hid fun wr (h : RB w wr q A5 cap5) => where_any 70 ⟨w.heap.size, 0, none⟩ (notF (setB q)) wr (text2_cf _) fun b w' hb hbl => nset_any q A5 cap5 w w' b (by omega) (ShB.kept h hbl)
  have CM0 := fun qn w' (h : SetOf qn (notF (setB q))) => nset_same h ▸ Items_any qn w'
  obtain ⟨f, hf⟩ : ∃ f, f = setB q := ⟨_, rfl⟩
  rw [← hf] at CH CI0 CW CM0 ⊢
  have hm1 : (str (itemsF (notF f))).size ≤ 2304 := by rw [size_str]; exact itemsF_le _
  have hm2 := itemsF_le (notF f)
  have hi1 : (str (itemsF f)).size ≤ 2304 := by rw [size_str]; exact itemsF_le _
  have hi2 := itemsF_le f
  obtain ⟨M, hM⟩ : ∃ M, M = itemsF (notF f) := ⟨_, rfl⟩
  obtain ⟨I, hI⟩ : ∃ I, I = itemsF f := ⟨_, rfl⟩
  rw [← hM] at CM0 hm1 hm2
  rw [← hI] at CI0 hi1 hi2
  unfold setV at CI0
  have CI := Lib.hid CI0
  have CM := Lib.hid CM0
  obtain ⟨T, hT⟩ : ∃ T, T = bytesF f := ⟨_, rfl⟩
  rw [← hT]
  have HTT := Lib.hid hT
  have HM := Lib.hid hM
  have HI := Lib.hid hI
  clear hf hM hI hT CI0 CM0 hbx
  go_enter Try.func35, Try.ntmps35
  go_wp2_with fail
  clear b0 hW
  go_loopw [4, 5] (fun n u wr => ∃ b N : Nat, u = .int .i64 (b : Int) ∧ b ≤ 256 ∧ n = .int .i64 (N : Int) ∧ N ≤ b ∧ Hid (N = cntT f b) ∧ RB w wr q A5 cap5) (fun _ u _ => 256 - (intOf u).toNat)
  case atStart => exact ⟨0, 0, rfl, by omega, rfl, by omega, rfl, HBX.out⟩
  case round =>
    obtain ⟨b, N, rfl, hb, rfl, hNb, HN, hS⟩ := hrel
    clear HBX
    obtain ⟨y0, y1, y2, y3⟩ := rb_z4 hS
    have HS := Lib.hid hS
    have hwl : w.heap.size < wr.heap.size := hS.blk.lt
    clear hS
    by_cases hlt : b < 256
    · have i1 : (b : Int) < 256 := by omega
      have CB := CH.out b (by omega) wr
      cases hfb : f b with
      | false =>
        rw [hfb] at CB
        have CB := Lib.hid CB
        have HK : Hid (N = cntT f (b + 1)) := by show _ = _; rw [cntT_succ, hfb, HN.out]; simp
        clear hfb
        go_wp2_with fail
        refine CB.out.mono ?_
        rintro e w2 ⟨rfl, b2⟩
        have HS2 := Lib.hid (ShB.kept HS.out b2)
        clear b2 CB y0 y1 y2 y3
        go_wp2_with fail
        go_roundw
        case rel => exact ⟨b + 1, N, by go_num, by omega, rfl, by omega, HK, HS2.out⟩
        case measure => simp [intOf]; omega
      | true =>
        rw [hfb] at CB
        have CB := Lib.hid CB
        have HK : Hid (N + 1 = cntT f (b + 1)) := by show _ = _; rw [cntT_succ, hfb, HN.out]; simp
        clear hfb
        go_wp2_with fail
        refine CB.out.mono ?_
        rintro e w2 ⟨rfl, b2⟩
        have HS2 := Lib.hid (ShB.kept HS.out b2)
        clear b2 CB y0 y1 y2 y3
        go_wp2_with fail
        go_roundw
        case rel => exact ⟨b + 1, N + 1, by go_num, by omega, by go_num, by omega, HK, HS2.out⟩
        case measure => simp [intOf]; omega
    · obtain rfl : b = 256 := by omega
      obtain ⟨N', hN', hN2, hcs⟩ := bytes_cases f
      obtain rfl : N = N' := by rw [hN', HN.out]
      obtain ⟨z, hz⟩ : ∃ z, z = f 10 := ⟨_, rfl⟩
      have CT := CH.out 10 (by omega)
      rw [← hz] at CT hcs
      rw [← HTT.out, ← HM.out, ← HI.out] at hcs
      have CT := Lib.hid CT
      clear hN' hz hlt CH HTT
      rcases hcs with ⟨hn, rfl⟩ | ⟨hn, rfl, rfl⟩ | ⟨hn, rfl, rfl⟩ | ⟨hn, hn2, h3, h4, rfl⟩ | ⟨hn, hn2, h3, rfl⟩ | ⟨hn, rfl⟩
      · have e1 : ((N : Int) == 1) = true := by rw [beq_iff_eq]; omega
        clear hn
        go_wp2_with fail
        refine (CI.out _).mono ?_
        rintro e w2 ⟨rfl, b2⟩
        have hS2 := ShB.kept HS.out b2
        have HS2 := Lib.hid hS2
        clear y0 y1 y2 y3
        obtain ⟨y0, y1, y2, y3⟩ := rb_z4 hS2
        have hwl2 : w.heap.size < w2.heap.size := hS2.blk.lt
        clear b2 hS2
        go_wp2_with fail
        go_ret
        exact ⟨rfl, HS2.out.be⟩
      · have e1 : ((N : Int) == 1) = false := by rw [beq_eq_false_iff_ne]; omega
        have e2 : ((N : Int) == 255) = true := by rw [beq_iff_eq]; omega
        clear hn
        go_wp2_with fail
        refine (CT.out _).mono ?_
        rintro e w2 ⟨rfl, b2⟩
        have hS2 := ShB.kept HS.out b2
        have HS2 := Lib.hid hS2
        clear y0 y1 y2 y3
        obtain ⟨y0, y1, y2, y3⟩ := rb_z4 hS2
        have hwl2 : w.heap.size < w2.heap.size := hS2.blk.lt
        clear b2 hS2
        go_wp2_with fail
        go_ret
        exact ⟨rfl, HS2.out.be⟩
      · have e1 : ((N : Int) == 1) = false := by rw [beq_eq_false_iff_ne]; omega
        have e2 : ((N : Int) == 255) = true := by rw [beq_iff_eq]; omega
        have a1 : (128 : Int) < (N : Int) := by omega
        have a2 : (N : Int) < 256 := by omega
        clear hn
        go_wp2_with fail
        refine (CT.out _).mono ?_
        rintro e w2 ⟨rfl, b2⟩
        have hS2 := ShB.kept HS.out b2
        have HS2 := Lib.hid hS2
        clear y0 y1 y2 y3
        obtain ⟨y0, y1, y2, y3⟩ := rb_z4 hS2
        have hwl2 : w.heap.size < w2.heap.size := hS2.blk.lt
        clear b2 hS2
        go_wp2_with fail
        refine (CW.out _ HS2.out).mono ?_
        rintro e w3 ⟨qn, rfl, hqn, b2⟩
        have HQN := Lib.hid hqn
        have hS3 := ShB.kept HS2.out b2
        have HS3 := Lib.hid hS3
        clear y0 y1 y2 y3
        obtain ⟨y0, y1, y2, y3⟩ := rb_z4 hS3
        have hwl3 : w.heap.size < w3.heap.size := hS3.blk.lt
        clear b2 hS3 hqn
        go_wp2_with fail
        refine (CM.out _ _ HQN.out).mono ?_
        rintro e w4 ⟨rfl, b2⟩
        have hS4 := ShB.kept HS3.out b2
        have HS4 := Lib.hid hS4
        clear y0 y1 y2 y3
        obtain ⟨y0, y1, y2, y3⟩ := rb_z4 hS4
        have hwl4 : w.heap.size < w4.heap.size := hS4.blk.lt
        clear b2 hS4
        go_wp2_with fail
        go_ret
        exact ⟨ret_str cat_nbr, HS4.out.be⟩
      · have e1 : ((N : Int) == 1) = false := by rw [beq_eq_false_iff_ne]; omega
        have e2 : ((N : Int) == 255) = false := by rw [beq_eq_false_iff_ne]; omega
        have a1 : (128 : Int) < (N : Int) := by omega
        have a2 : (N : Int) < 256 := by omega
        clear hn hn2 h3 h4
        go_wp2_with fail
        refine (CW.out _ HS.out).mono ?_
        rintro e w2 ⟨qn, rfl, hqn, b2⟩
        have HQN := Lib.hid hqn
        have hS2 := ShB.kept HS.out b2
        have HS2 := Lib.hid hS2
        clear y0 y1 y2 y3
        obtain ⟨y0, y1, y2, y3⟩ := rb_z4 hS2
        have hwl2 : w.heap.size < w2.heap.size := hS2.blk.lt
        clear b2 hS2 hqn
        go_wp2_with fail
        refine (CM.out _ _ HQN.out).mono ?_
        rintro e w3 ⟨rfl, b2⟩
        have hS3 := ShB.kept HS2.out b2
        have HS3 := Lib.hid hS3
        clear y0 y1 y2 y3
        obtain ⟨y0, y1, y2, y3⟩ := rb_z4 hS3
        have hwl3 : w.heap.size < w3.heap.size := hS3.blk.lt
        clear b2 hS3
        go_wp2_with fail
        go_ret
        exact ⟨ret_str cat_nbr, HS3.out.be⟩
      · have e1 : ((N : Int) == 1) = false := by rw [beq_eq_false_iff_ne]; omega
        have e2 : ((N : Int) == 255) = false := by rw [beq_eq_false_iff_ne]; omega
        have a1 : ¬ (128 : Int) < (N : Int) := by omega
        clear hn hn2 h3
        go_wp2_with fail
        refine (CI.out _).mono ?_
        rintro e w2 ⟨rfl, b2⟩
        have hS2 := ShB.kept HS.out b2
        have HS2 := Lib.hid hS2
        clear y0 y1 y2 y3
        obtain ⟨y0, y1, y2, y3⟩ := rb_z4 hS2
        have hwl2 : w.heap.size < w2.heap.size := hS2.blk.lt
        clear b2 hS2
        go_wp2_with fail
        go_ret
        exact ⟨ret_str cat_br, HS2.out.be⟩
      · have e1 : ((N : Int) == 1) = false := by rw [beq_eq_false_iff_ne]; omega
        have e2 : ((N : Int) == 255) = false := by rw [beq_eq_false_iff_ne]; omega
        have a1 : (128 : Int) < (N : Int) := by omega
        have a2 : ¬ (N : Int) < 256 := by omega
        clear hn
        go_wp2_with fail
        refine (CI.out _).mono ?_
        rintro e w2 ⟨rfl, b2⟩
        have hS2 := ShB.kept HS.out b2
        have HS2 := Lib.hid hS2
        clear y0 y1 y2 y3
        obtain ⟨y0, y1, y2, y3⟩ := rb_z4 hS2
        have hwl2 : w.heap.size < w2.heap.size := hS2.blk.lt
        clear b2 hS2
        go_wp2_with fail
        go_ret
        exact ⟨ret_str cat_br, HS2.out.be⟩
set_option maxRecDepth 100000 in
set_option maxHeartbeats 4000000 in
theorem kid_0_1 (ad : Addr) (cap5 : Nat) (d : Nat) (a0 a1 a2 a3 a4 : Int) (A6 : Option Addr) (l6 cap6 : Nat) (T : List UInt8) (w : World) (ks : List Int) (A : Option Addr) (c : Nat) (hcap : 1 ≤ cap5) (hcap2 : cap5 ≤ 9223372036854775807) (hl : ks.length ≤ 4) (hT : T.length ≤ 185600)
    (hF : ∀ w', Below w.heap.size w w' → w'.cell? ⟨d, 5, none⟩ = some (.slice (some ad) 1 cap5) ∧ w'.cell? ad = some (.int .i64 a0) ∧ w'.cell? ⟨ad.block, ad.off + 1, none⟩ = some (.int .u64 a1) ∧ w'.cell? ⟨ad.block, ad.off + 2, none⟩ = some (.int .u64 a2) ∧ w'.cell? ⟨ad.block, ad.off + 3, none⟩ = some (.int .u64 a3) ∧ w'.cell? ⟨ad.block, ad.off + 4, none⟩ = some (.int .u64 a4) ∧ w'.cell? ⟨ad.block, ad.off + 5, none⟩ = some (.slice A6 l6 cap6))
    (hC : ∀ w', Below w.heap.size w w' → Calls Try.prog 35 #[.agg #[.int .i64 a0, .int .u64 a1, .int .u64 a2, .int .u64 a3, .int .u64 a4, .slice A6 l6 cap6]] w' fun e w'' => e = .returned (.string (str T)) ∧ Below w'.heap.size w' w'')
    (hA : SLk w A ks) :
    Calls Try.prog 67 #[.int .i64 0, .slice A ks.length c, .pointer (some ⟨d, 0, none⟩)] w fun e w' => e = .returned (.string (str (brT ks a0 T))) ∧ Below w.heap.size w w' := by
  have HF := Lib.hid hF
  have C := Lib.hid (hC w (Below.refl _ _))
  have HA := Lib.hid hA
  have ht1 : (str T).size ≤ 185600 := by rw [size_str]; exact hT
  obtain ⟨b0, c0, c1, c2, c3, c4, c5⟩ := hF w (Below.refl _ _)
  clear hF hC hA
  go_enter Try.func67, Try.ntmps67
  go_wp2_with fail
  refine C.out.mono ?_
  rintro e w1 ⟨rfl, hb1⟩
  have HB1 := Lib.hid hb1
  clear b0 c0 c1 c2 c3 c4 c5 hb1 C
  go_wp2_with fail
  go_loopw [7] (fun u wr => ∃ k : Nat, u = .int .i64 (k : Int) ∧ k ≤ ks.length ∧ Below w.heap.size w wr ∧ Hid (∀ j (hj : j < ks.length), j < k → ¬ ks[j] = a0)) (fun u _ => ks.length - (intOf u).toNat)
  case atStart => exact ⟨0, rfl, by omega, HB1.out, fun j hj h => absurd h (by omega)⟩
  case round =>
    obtain ⟨k, rfl, hk, hB, HNo⟩ := hrel
    have HB := Lib.hid hB
    obtain ⟨b0, c0, c1, c2, c3, c4, c5⟩ := HF.out wr hB
    by_cases hlk : k < ks.length
    · have k1 : (k : Int) < (ks.length : Int) := by omega
      obtain ⟨g, rfl, hg, y0⟩ := (HA.out.kept hB).at_ hlk
      clear hB
      by_cases he : ks[k] = a0
      · rw [he] at y0
        have HT : Hid (brT ks a0 T = 40 :: T ++ [41]) := brT_in _ (he ▸ List.getElem_mem _)
        clear he
        go_wp2_with fail
        go_region
        all_goals go_wp2_with fail
        all_goals go_ret
        exact ⟨ret_str (by rw [HT.out]; exact cat_par), HB.out.drew⟩
      · have e1 : (a0 == ks[k]) = false := by rw [beq_eq_false_iff_ne]; exact fun h => he h.symm
        have HNo2 : Hid (∀ j (hj : j < ks.length), j < k + 1 → ¬ ks[j] = a0) := fun j hj h => by
          by_cases ej : j = k
          · subst ej; exact he
          · exact HNo.out j hj (by omega)
        clear he
        go_wp2_with fail
        go_region
        all_goals go_wp2_with fail
        all_goals go_roundw
        case rel => exact ⟨k + 1, by go_num, by omega, HB.out.drew, HNo2⟩
        case measure => simp [intOf]; omega
    · obtain rfl : k = ks.length := by omega
      have HT : Hid (brT ks a0 T = T) := brT_no _ fun hin => by
        obtain ⟨i, hi, e⟩ := List.mem_iff_getElem.1 hin
        exact HNo.out i hi hi e
      clear hB hlk
      go_wp2_with fail
      go_ret
      exact ⟨by rw [HT.out]; rfl, HB.out⟩
set_option maxRecDepth 100000 in
set_option maxHeartbeats 4000000 in
theorem kid_0_2 (ad : Addr) (cap5 : Nat) (d : Nat) (a0 a1 a2 a3 a4 : Int) (A6 : Option Addr) (l6 cap6 : Nat) (T : List UInt8) (w : World) (ks : List Int) (A : Option Addr) (c : Nat) (hcap : 2 ≤ cap5) (hcap2 : cap5 ≤ 9223372036854775807) (hl : ks.length ≤ 4) (hT : T.length ≤ 185600)
    (hF : ∀ w', Below w.heap.size w w' → w'.cell? ⟨d, 5, none⟩ = some (.slice (some ad) 2 cap5) ∧ w'.cell? ad = some (.int .i64 a0) ∧ w'.cell? ⟨ad.block, ad.off + 1, none⟩ = some (.int .u64 a1) ∧ w'.cell? ⟨ad.block, ad.off + 2, none⟩ = some (.int .u64 a2) ∧ w'.cell? ⟨ad.block, ad.off + 3, none⟩ = some (.int .u64 a3) ∧ w'.cell? ⟨ad.block, ad.off + 4, none⟩ = some (.int .u64 a4) ∧ w'.cell? ⟨ad.block, ad.off + 5, none⟩ = some (.slice A6 l6 cap6))
    (hC : ∀ w', Below w.heap.size w w' → Calls Try.prog 35 #[.agg #[.int .i64 a0, .int .u64 a1, .int .u64 a2, .int .u64 a3, .int .u64 a4, .slice A6 l6 cap6]] w' fun e w'' => e = .returned (.string (str T)) ∧ Below w'.heap.size w' w'')
    (hA : SLk w A ks) :
    Calls Try.prog 67 #[.int .i64 0, .slice A ks.length c, .pointer (some ⟨d, 0, none⟩)] w fun e w' => e = .returned (.string (str (brT ks a0 T))) ∧ Below w.heap.size w w' := by
  have HF := Lib.hid hF
  have C := Lib.hid (hC w (Below.refl _ _))
  have HA := Lib.hid hA
  have ht1 : (str T).size ≤ 185600 := by rw [size_str]; exact hT
  obtain ⟨b0, c0, c1, c2, c3, c4, c5⟩ := hF w (Below.refl _ _)
  clear hF hC hA
  go_enter Try.func67, Try.ntmps67
  go_wp2_with fail
  refine C.out.mono ?_
  rintro e w1 ⟨rfl, hb1⟩
  have HB1 := Lib.hid hb1
  clear b0 c0 c1 c2 c3 c4 c5 hb1 C
  go_wp2_with fail
  go_loopw [7] (fun u wr => ∃ k : Nat, u = .int .i64 (k : Int) ∧ k ≤ ks.length ∧ Below w.heap.size w wr ∧ Hid (∀ j (hj : j < ks.length), j < k → ¬ ks[j] = a0)) (fun u _ => ks.length - (intOf u).toNat)
  case atStart => exact ⟨0, rfl, by omega, HB1.out, fun j hj h => absurd h (by omega)⟩
  case round =>
    obtain ⟨k, rfl, hk, hB, HNo⟩ := hrel
    have HB := Lib.hid hB
    obtain ⟨b0, c0, c1, c2, c3, c4, c5⟩ := HF.out wr hB
    by_cases hlk : k < ks.length
    · have k1 : (k : Int) < (ks.length : Int) := by omega
      obtain ⟨g, rfl, hg, y0⟩ := (HA.out.kept hB).at_ hlk
      clear hB
      by_cases he : ks[k] = a0
      · rw [he] at y0
        have HT : Hid (brT ks a0 T = 40 :: T ++ [41]) := brT_in _ (he ▸ List.getElem_mem _)
        clear he
        go_wp2_with fail
        go_region
        all_goals go_wp2_with fail
        all_goals go_ret
        exact ⟨ret_str (by rw [HT.out]; exact cat_par), HB.out.drew⟩
      · have e1 : (a0 == ks[k]) = false := by rw [beq_eq_false_iff_ne]; exact fun h => he h.symm
        have HNo2 : Hid (∀ j (hj : j < ks.length), j < k + 1 → ¬ ks[j] = a0) := fun j hj h => by
          by_cases ej : j = k
          · subst ej; exact he
          · exact HNo.out j hj (by omega)
        clear he
        go_wp2_with fail
        go_region
        all_goals go_wp2_with fail
        all_goals go_roundw
        case rel => exact ⟨k + 1, by go_num, by omega, HB.out.drew, HNo2⟩
        case measure => simp [intOf]; omega
    · obtain rfl : k = ks.length := by omega
      have HT : Hid (brT ks a0 T = T) := brT_no _ fun hin => by
        obtain ⟨i, hi, e⟩ := List.mem_iff_getElem.1 hin
        exact HNo.out i hi hi e
      clear hB hlk
      go_wp2_with fail
      go_ret
      exact ⟨by rw [HT.out]; rfl, HB.out⟩
set_option maxRecDepth 100000 in
set_option maxHeartbeats 4000000 in
theorem kid_1_2 (ad : Addr) (cap5 : Nat) (d : Nat) (a0 a1 a2 a3 a4 : Int) (A6 : Option Addr) (l6 cap6 : Nat) (T : List UInt8) (w : World) (ks : List Int) (A : Option Addr) (c : Nat) (hcap : 2 ≤ cap5) (hcap2 : cap5 ≤ 9223372036854775807) (hl : ks.length ≤ 4) (hT : T.length ≤ 185600)
    (hF : ∀ w', Below w.heap.size w w' → w'.cell? ⟨d, 5, none⟩ = some (.slice (some ad) 2 cap5) ∧ w'.cell? ⟨ad.block, ad.off + 6, none⟩ = some (.int .i64 a0) ∧ w'.cell? ⟨ad.block, ad.off + 6 + 1, none⟩ = some (.int .u64 a1) ∧ w'.cell? ⟨ad.block, ad.off + 6 + 2, none⟩ = some (.int .u64 a2) ∧ w'.cell? ⟨ad.block, ad.off + 6 + 3, none⟩ = some (.int .u64 a3) ∧ w'.cell? ⟨ad.block, ad.off + 6 + 4, none⟩ = some (.int .u64 a4) ∧ w'.cell? ⟨ad.block, ad.off + 6 + 5, none⟩ = some (.slice A6 l6 cap6))
    (hC : ∀ w', Below w.heap.size w w' → Calls Try.prog 35 #[.agg #[.int .i64 a0, .int .u64 a1, .int .u64 a2, .int .u64 a3, .int .u64 a4, .slice A6 l6 cap6]] w' fun e w'' => e = .returned (.string (str T)) ∧ Below w'.heap.size w' w'')
    (hA : SLk w A ks) :
    Calls Try.prog 67 #[.int .i64 1, .slice A ks.length c, .pointer (some ⟨d, 0, none⟩)] w fun e w' => e = .returned (.string (str (brT ks a0 T))) ∧ Below w.heap.size w w' := by
  have HF := Lib.hid hF
  have C := Lib.hid (hC w (Below.refl _ _))
  have HA := Lib.hid hA
  have ht1 : (str T).size ≤ 185600 := by rw [size_str]; exact hT
  obtain ⟨b0, c0, c1, c2, c3, c4, c5⟩ := hF w (Below.refl _ _)
  clear hF hC hA
  go_enter Try.func67, Try.ntmps67
  go_wp2_with fail
  refine C.out.mono ?_
  rintro e w1 ⟨rfl, hb1⟩
  have HB1 := Lib.hid hb1
  clear b0 c0 c1 c2 c3 c4 c5 hb1 C
  go_wp2_with fail
  go_loopw [7] (fun u wr => ∃ k : Nat, u = .int .i64 (k : Int) ∧ k ≤ ks.length ∧ Below w.heap.size w wr ∧ Hid (∀ j (hj : j < ks.length), j < k → ¬ ks[j] = a0)) (fun u _ => ks.length - (intOf u).toNat)
  case atStart => exact ⟨0, rfl, by omega, HB1.out, fun j hj h => absurd h (by omega)⟩
  case round =>
    obtain ⟨k, rfl, hk, hB, HNo⟩ := hrel
    have HB := Lib.hid hB
    obtain ⟨b0, c0, c1, c2, c3, c4, c5⟩ := HF.out wr hB
    by_cases hlk : k < ks.length
    · have k1 : (k : Int) < (ks.length : Int) := by omega
      obtain ⟨g, rfl, hg, y0⟩ := (HA.out.kept hB).at_ hlk
      clear hB
      by_cases he : ks[k] = a0
      · rw [he] at y0
        have HT : Hid (brT ks a0 T = 40 :: T ++ [41]) := brT_in _ (he ▸ List.getElem_mem _)
        clear he
        go_wp2_with fail
        go_region
        all_goals go_wp2_with fail
        all_goals go_ret
        exact ⟨ret_str (by rw [HT.out]; exact cat_par), HB.out.drew⟩
      · have e1 : (a0 == ks[k]) = false := by rw [beq_eq_false_iff_ne]; exact fun h => he h.symm
        have HNo2 : Hid (∀ j (hj : j < ks.length), j < k + 1 → ¬ ks[j] = a0) := fun j hj h => by
          by_cases ej : j = k
          · subst ej; exact he
          · exact HNo.out j hj (by omega)
        clear he
        go_wp2_with fail
        go_region
        all_goals go_wp2_with fail
        all_goals go_roundw
        case rel => exact ⟨k + 1, by go_num, by omega, HB.out.drew, HNo2⟩
        case measure => simp [intOf]; omega
    · obtain rfl : k = ks.length := by omega
      have HT : Hid (brT ks a0 T = T) := brT_no _ fun hin => by
        obtain ⟨i, hi, e⟩ := List.mem_iff_getElem.1 hin
        exact HNo.out i hi hi e
      clear hB hlk
      go_wp2_with fail
      go_ret
      exact ⟨by rw [HT.out]; rfl, HB.out⟩
def TextOk (q : Re) : Prop := ∀ (cs : List Value) (D : Nat) (w : World), ReC w D q cs → D ≤ w.heap.size → q.size ≤ 80 → Calls Try.prog 35 #[.agg cs.toArray] w fun e w' => e = .returned (.string (str (textR q))) ∧ Below w.heap.size w w'
set_option maxRecDepth 100000 in
set_option maxHeartbeats 1000000 in
theorem rtext_none (w : World) (A5 : Option Addr) (cap5 : Nat) :
    Calls Try.prog 35 #[.agg #[.int .i64 1, .int .u64 0, .int .u64 0, .int .u64 0, .int .u64 0, .slice A5 0 cap5]] w fun e w' => e = .returned (.string (str [91, 94, 92, 120, 48, 48, 45, 92, 120, 102, 102, 93])) ∧ Below w.heap.size w w' := by
  have hbx := ShB.new w #[.int .i64 1, .int .u64 0, .int .u64 0, .int .u64 0, .int .u64 0, .slice A5 0 cap5]
  obtain ⟨W, hW⟩ : ∃ W, w.alloc (.cells #[.int .i64 1, .int .u64 0, .int .u64 0, .int .u64 0, .int .u64 0, .slice A5 0 cap5] 27) = W := ⟨_, rfl⟩
  rw [hW] at hbx
  have b0 : W.cell? ⟨w.heap.size, 0, none⟩ = some (.int .i64 1) := hbx.blk.cell 0
  have HB := Lib.hid hbx
  clear hbx
  go_enter Try.func35, Try.ntmps35
  go_wp2_with fail
  go_ret
  exact ⟨rfl, HB.out.be⟩
set_option maxRecDepth 100000 in
set_option maxHeartbeats 1000000 in
theorem rtext_empty (w : World) (A5 : Option Addr) (cap5 : Nat) :
    Calls Try.prog 35 #[.agg #[.int .i64 2, .int .u64 0, .int .u64 0, .int .u64 0, .int .u64 0, .slice A5 0 cap5]] w fun e w' => e = .returned (.string (str [])) ∧ Below w.heap.size w w' := by
  have hbx := ShB.new w #[.int .i64 2, .int .u64 0, .int .u64 0, .int .u64 0, .int .u64 0, .slice A5 0 cap5]
  obtain ⟨W, hW⟩ : ∃ W, w.alloc (.cells #[.int .i64 2, .int .u64 0, .int .u64 0, .int .u64 0, .int .u64 0, .slice A5 0 cap5] 27) = W := ⟨_, rfl⟩
  rw [hW] at hbx
  have b0 : W.cell? ⟨w.heap.size, 0, none⟩ = some (.int .i64 2) := hbx.blk.cell 0
  have HB := Lib.hid hbx
  clear hbx
  go_enter Try.func35, Try.ntmps35
  go_wp2_with fail
  go_ret
  exact ⟨rfl, HB.out.be⟩
set_option maxRecDepth 100000 in
set_option maxHeartbeats 1000000 in
theorem rtext_beg (w : World) (A5 : Option Addr) (cap5 : Nat) :
    Calls Try.prog 35 #[.agg #[.int .i64 7, .int .u64 0, .int .u64 0, .int .u64 0, .int .u64 0, .slice A5 0 cap5]] w fun e w' => e = .returned (.string (str [94])) ∧ Below w.heap.size w w' := by
  have hbx := ShB.new w #[.int .i64 7, .int .u64 0, .int .u64 0, .int .u64 0, .int .u64 0, .slice A5 0 cap5]
  obtain ⟨W, hW⟩ : ∃ W, w.alloc (.cells #[.int .i64 7, .int .u64 0, .int .u64 0, .int .u64 0, .int .u64 0, .slice A5 0 cap5] 27) = W := ⟨_, rfl⟩
  rw [hW] at hbx
  have b0 : W.cell? ⟨w.heap.size, 0, none⟩ = some (.int .i64 7) := hbx.blk.cell 0
  have HB := Lib.hid hbx
  clear hbx
  go_enter Try.func35, Try.ntmps35
  go_wp2_with fail
  go_ret
  exact ⟨rfl, HB.out.be⟩
set_option maxRecDepth 100000 in
set_option maxHeartbeats 1000000 in
theorem rtext_fin (w : World) (A5 : Option Addr) (cap5 : Nat) :
    Calls Try.prog 35 #[.agg #[.int .i64 8, .int .u64 0, .int .u64 0, .int .u64 0, .int .u64 0, .slice A5 0 cap5]] w fun e w' => e = .returned (.string (str [36])) ∧ Below w.heap.size w w' := by
  have hbx := ShB.new w #[.int .i64 8, .int .u64 0, .int .u64 0, .int .u64 0, .int .u64 0, .slice A5 0 cap5]
  obtain ⟨W, hW⟩ : ∃ W, w.alloc (.cells #[.int .i64 8, .int .u64 0, .int .u64 0, .int .u64 0, .int .u64 0, .slice A5 0 cap5] 27) = W := ⟨_, rfl⟩
  rw [hW] at hbx
  have b0 : W.cell? ⟨w.heap.size, 0, none⟩ = some (.int .i64 8) := hbx.blk.cell 0
  have HB := Lib.hid hbx
  clear hbx
  go_enter Try.func35, Try.ntmps35
  go_wp2_with fail
  go_ret
  exact ⟨rfl, HB.out.be⟩
set_option maxRecDepth 100000 in
set_option maxHeartbeats 4000000 in
theorem rtext_star (a : Re) (ca : List Value) (IHa : TextOk a) (D : Nat) (w : World) (A5 : Option Addr) (cap5 : Nat) (hD : D ≤ w.heap.size) (h1 : At6 w D A5 0 ca) (ha : ReC w D a ca) (hcap : 1 ≤ cap5) (hcap2 : cap5 ≤ 9223372036854775807) (hz : a.size ≤ 79) :
    Calls Try.prog 35 #[.agg #[.int .i64 6, .int .u64 0, .int .u64 0, .int .u64 0, .int .u64 0, .slice A5 1 cap5]] w fun e w' => e = .returned (.string (str (textR (.star a)))) ∧ Below w.heap.size w w' := by
  obtain ⟨ad, rfl⟩ : ∃ ad, A5 = some ad := ⟨_, h1.choose_spec.1⟩
  obtain ⟨a0, a1, a2, a3, a4, A6, l6, cap6, rfl⟩ := re_cs ha
  obtain ⟨box, hbox⟩ : ∃ box : Array Value, box = #[.int .i64 6, .int .u64 0, .int .u64 0, .int .u64 0, .int .u64 0, .slice (some ad) 1 cap5] := ⟨_, rfl⟩
  have hbx := ShB.new w box
  obtain ⟨W, hW⟩ : ∃ W, w.alloc (.cells #[.int .i64 6, .int .u64 0, .int .u64 0, .int .u64 0, .int .u64 0, .slice (some ad) 1 cap5] 27) = W := ⟨_, rfl⟩
  rw [hbox, hW] at hbx
  rw [← hbox] at hbx
  have k0 : W.cell? ⟨w.heap.size, 0, none⟩ = some (.int .i64 6) := by rw [hbx.blk.cell 0, hbox]; rfl
  have hea := (re_kind ha).choose_spec
  have hka : a0 = a.kind := by
    obtain ⟨_, _, _, _, _, _, _, e⟩ := re_kind ha
    simp only [List.cons.injEq, Value.int.injEq, true_and] at e
    exact e.1
  have ht0 := textR_le a
  have hu0 := brT_le [2, 4, 5, 6] a.kind (textR a)
  have s0 : (str (brT [2, 4, 5, 6] a.kind (textR a))).size ≤ 190000 := by rw [size_str]; omega
  have s0' : (brT [2, 4, 5, 6] a.kind (textR a)).length ≤ 190000 := by omega
  have CA0 : ∀ w', ShB w w' box → ∀ A c, SLk w' A [2, 4, 5, 6] → Calls Try.prog 67 #[.int .i64 0, .slice A 4 c, .pointer (some ⟨w.heap.size, 0, none⟩)] w' fun e w'' => e = .returned (.string (str (brT [2, 4, 5, 6] a.kind (textR a)))) ∧ Below w'.heap.size w' w'' :=
    fun w' h A c hk => hka ▸ kid_0_1 ad cap5 w.heap.size _ _ _ _ _ _ _ _ (textR a) w' [2, 4, 5, 6] A c hcap hcap2 (by simp) (by omega)
      (fun w'' hb => ⟨by rw [(ShB.kept h hb).blk.cell 5, hbox]; rfl, kid0 h1 (((ShB.kept h hb).be).mono hD)⟩)
      (fun w'' hb => IHa _ D w'' (ha.below ((ShB.kept h hb).be.mono hD)) (Nat.le_trans hD (ShB.kept h hb).be.size) (by omega)) hk
  have HT : Hid (textR (.star a) = brT [2, 4, 5, 6] a.kind (textR a) ++ [42]) := rfl
  obtain ⟨T, hT⟩ : ∃ T, T = brT [2, 4, 5, 6] a.kind (textR a) := ⟨_, rfl⟩
  rw [← hT] at HT
  rw [← hT] at CA0 s0 s0'
  have CA := Lib.hid CA0
  have HB := Lib.hid hbx
  clear hbx hbox ha h1 IHa hka hea hT CA0 ht0 hu0
  go_enter Try.func35, Try.ntmps35
  go_wp2_with fail
  refine (CA.out _ (ShB.alloc HB.out _) _ _ (.inr ⟨_, rfl, KB.new rfl [2, 4, 5, 6]⟩)).mono ?_
  rintro e w1 ⟨rfl, hb⟩
  have HB1 := Lib.hid (ShB.kept (ShB.alloc HB.out _) hb)
  have hwl1 : w.heap.size < w1.heap.size := HB1.out.blk.lt
  clear hb
  clear k0
  go_wp2_with fail
  go_ret
  exact ⟨ret_str (by rw [HT.out]; exact cat_str T [42]), HB1.out.be⟩
set_option maxRecDepth 100000 in
set_option maxHeartbeats 4000000 in
theorem rtext_cat (a b : Re) (ca cc : List Value) (IHa : TextOk a) (IHc : TextOk b) (D : Nat) (w : World) (A5 : Option Addr) (cap5 : Nat) (hD : D ≤ w.heap.size) (h1 : At6 w D A5 0 ca) (h2 : At6 w D A5 1 cc) (ha : ReC w D a ca) (hc : ReC w D b cc) (hcap : 2 ≤ cap5) (hcap2 : cap5 ≤ 9223372036854775807) (hz : a.size + b.size ≤ 79) :
    Calls Try.prog 35 #[.agg #[.int .i64 4, .int .u64 0, .int .u64 0, .int .u64 0, .int .u64 0, .slice A5 2 cap5]] w fun e w' => e = .returned (.string (str (textR (.cat a b)))) ∧ Below w.heap.size w w' := by
  obtain ⟨ad, rfl⟩ : ∃ ad, A5 = some ad := ⟨_, h1.choose_spec.1⟩
  obtain ⟨a0, a1, a2, a3, a4, A6, l6, cap6, rfl⟩ := re_cs ha
  obtain ⟨b0, b1, b2, b3, b4, B5, m5, capb, rfl⟩ := re_cs hc
  obtain ⟨box, hbox⟩ : ∃ box : Array Value, box = #[.int .i64 4, .int .u64 0, .int .u64 0, .int .u64 0, .int .u64 0, .slice (some ad) 2 cap5] := ⟨_, rfl⟩
  have hbx := ShB.new w box
  obtain ⟨W, hW⟩ : ∃ W, w.alloc (.cells #[.int .i64 4, .int .u64 0, .int .u64 0, .int .u64 0, .int .u64 0, .slice (some ad) 2 cap5] 27) = W := ⟨_, rfl⟩
  rw [hbox, hW] at hbx
  rw [← hbox] at hbx
  have k0 : W.cell? ⟨w.heap.size, 0, none⟩ = some (.int .i64 4) := by rw [hbx.blk.cell 0, hbox]; rfl
  have hea := (re_kind ha).choose_spec
  have hka : a0 = a.kind := by
    obtain ⟨_, _, _, _, _, _, _, e⟩ := re_kind ha
    simp only [List.cons.injEq, Value.int.injEq, true_and] at e
    exact e.1
  have hkb : b0 = b.kind := by
    obtain ⟨_, _, _, _, _, _, _, e⟩ := re_kind hc
    simp only [List.cons.injEq, Value.int.injEq, true_and] at e
    exact e.1
  have ht0 := textR_le a
  have hu0 := brT_le [2, 5] a.kind (textR a)
  have s0 : (str (brT [2, 5] a.kind (textR a))).size ≤ 190000 := by rw [size_str]; omega
  have s0' : (brT [2, 5] a.kind (textR a)).length ≤ 190000 := by omega
  have CA0 : ∀ w', ShB w w' box → ∀ A c, SLk w' A [2, 5] → Calls Try.prog 67 #[.int .i64 0, .slice A 2 c, .pointer (some ⟨w.heap.size, 0, none⟩)] w' fun e w'' => e = .returned (.string (str (brT [2, 5] a.kind (textR a)))) ∧ Below w'.heap.size w' w'' :=
    fun w' h A c hk => hka ▸ kid_0_2 ad cap5 w.heap.size _ _ _ _ _ _ _ _ (textR a) w' [2, 5] A c hcap hcap2 (by simp) (by omega)
      (fun w'' hb => ⟨by rw [(ShB.kept h hb).blk.cell 5, hbox]; rfl, kid0 h1 (((ShB.kept h hb).be).mono hD)⟩)
      (fun w'' hb => IHa _ D w'' (ha.below ((ShB.kept h hb).be.mono hD)) (Nat.le_trans hD (ShB.kept h hb).be.size) (by omega)) hk
  have ht1 := textR_le b
  have hu1 := brT_le [2, 5, 4] b.kind (textR b)
  have s1 : (str (brT [2, 5, 4] b.kind (textR b))).size ≤ 190000 := by rw [size_str]; omega
  have s1' : (brT [2, 5, 4] b.kind (textR b)).length ≤ 190000 := by omega
  have CC0 : ∀ w', ShB w w' box → ∀ A c, SLk w' A [2, 5, 4] → Calls Try.prog 67 #[.int .i64 1, .slice A 3 c, .pointer (some ⟨w.heap.size, 0, none⟩)] w' fun e w'' => e = .returned (.string (str (brT [2, 5, 4] b.kind (textR b)))) ∧ Below w'.heap.size w' w'' :=
    fun w' h A c hk => hkb ▸ kid_1_2 ad cap5 w.heap.size _ _ _ _ _ _ _ _ (textR b) w' [2, 5, 4] A c hcap hcap2 (by simp) (by omega)
      (fun w'' hb => ⟨by rw [(ShB.kept h hb).blk.cell 5, hbox]; rfl, kid1 h2 (((ShB.kept h hb).be).mono hD)⟩)
      (fun w'' hb => IHc _ D w'' (hc.below ((ShB.kept h hb).be.mono hD)) (Nat.le_trans hD (ShB.kept h hb).be.size) (by omega)) hk
  have HT : Hid (textR (.cat a b) = brT [2, 5] a.kind (textR a) ++ brT [2, 5, 4] b.kind (textR b)) := rfl
  obtain ⟨T, hT⟩ : ∃ T, T = brT [2, 5] a.kind (textR a) := ⟨_, rfl⟩
  obtain ⟨U, hU⟩ : ∃ U, U = brT [2, 5, 4] b.kind (textR b) := ⟨_, rfl⟩
  rw [← hT, ← hU] at HT
  rw [← hT] at CA0 s0 s0'
  rw [← hU] at CC0 s1 s1'
  have CA := Lib.hid CA0
  have CC := Lib.hid CC0
  have HB := Lib.hid hbx
  clear hbx hbox ha h1 IHa hka hea hc h2 IHc hkb hT CA0 ht0 hu0 hU CC0 ht1 hu1
  go_enter Try.func35, Try.ntmps35
  go_wp2_with fail
  refine (CA.out _ (ShB.alloc HB.out _) _ _ (.inr ⟨_, rfl, KB.new rfl [2, 5]⟩)).mono ?_
  rintro e w1 ⟨rfl, hb⟩
  have HB1 := Lib.hid (ShB.kept (ShB.alloc HB.out _) hb)
  have hwl1 : w.heap.size < w1.heap.size := HB1.out.blk.lt
  clear hb
  clear k0
  go_wp2_with fail
  refine (CC.out _ (ShB.alloc HB1.out _) _ _ (.inr ⟨_, rfl, KB.new rfl [2, 5, 4]⟩)).mono ?_
  rintro e w2 ⟨rfl, hb⟩
  have HB2 := Lib.hid (ShB.kept (ShB.alloc HB1.out _) hb)
  have hwl2 : w.heap.size < w2.heap.size := HB2.out.blk.lt
  clear hb
  go_wp2_with fail
  go_ret
  exact ⟨ret_str (by rw [HT.out]; exact cat_str T U), HB2.out.be⟩
set_option maxRecDepth 100000 in
set_option maxHeartbeats 4000000 in
theorem rtext_alt (a b : Re) (ca cc : List Value) (IHa : TextOk a) (IHc : TextOk b) (D : Nat) (w : World) (A5 : Option Addr) (cap5 : Nat) (hD : D ≤ w.heap.size) (h1 : At6 w D A5 0 ca) (h2 : At6 w D A5 1 cc) (ha : ReC w D a ca) (hc : ReC w D b cc) (hcap : 2 ≤ cap5) (hcap2 : cap5 ≤ 9223372036854775807) (hz : a.size + b.size ≤ 79) :
    Calls Try.prog 35 #[.agg #[.int .i64 5, .int .u64 0, .int .u64 0, .int .u64 0, .int .u64 0, .slice A5 2 cap5]] w fun e w' => e = .returned (.string (str (textR (.alt a b)))) ∧ Below w.heap.size w w' := by
  obtain ⟨ad, rfl⟩ : ∃ ad, A5 = some ad := ⟨_, h1.choose_spec.1⟩
  obtain ⟨a0, a1, a2, a3, a4, A6, l6, cap6, rfl⟩ := re_cs ha
  obtain ⟨b0, b1, b2, b3, b4, B5, m5, capb, rfl⟩ := re_cs hc
  obtain ⟨box, hbox⟩ : ∃ box : Array Value, box = #[.int .i64 5, .int .u64 0, .int .u64 0, .int .u64 0, .int .u64 0, .slice (some ad) 2 cap5] := ⟨_, rfl⟩
  have hbx := ShB.new w box
  obtain ⟨W, hW⟩ : ∃ W, w.alloc (.cells #[.int .i64 5, .int .u64 0, .int .u64 0, .int .u64 0, .int .u64 0, .slice (some ad) 2 cap5] 27) = W := ⟨_, rfl⟩
  rw [hbox, hW] at hbx
  rw [← hbox] at hbx
  have k0 : W.cell? ⟨w.heap.size, 0, none⟩ = some (.int .i64 5) := by rw [hbx.blk.cell 0, hbox]; rfl
  have hea := (re_kind ha).choose_spec
  have hka : a0 = a.kind := by
    obtain ⟨_, _, _, _, _, _, _, e⟩ := re_kind ha
    simp only [List.cons.injEq, Value.int.injEq, true_and] at e
    exact e.1
  have hkb : b0 = b.kind := by
    obtain ⟨_, _, _, _, _, _, _, e⟩ := re_kind hc
    simp only [List.cons.injEq, Value.int.injEq, true_and] at e
    exact e.1
  have ht0 := textR_le a
  have hu0 := brT_le [] a.kind (textR a)
  have s0 : (str (brT [] a.kind (textR a))).size ≤ 190000 := by rw [size_str]; omega
  have s0' : (brT [] a.kind (textR a)).length ≤ 190000 := by omega
  have CA0 : ∀ w', ShB w w' box → ∀ A c, SLk w' A [] → Calls Try.prog 67 #[.int .i64 0, .slice A 0 c, .pointer (some ⟨w.heap.size, 0, none⟩)] w' fun e w'' => e = .returned (.string (str (brT [] a.kind (textR a)))) ∧ Below w'.heap.size w' w'' :=
    fun w' h A c hk => hka ▸ kid_0_2 ad cap5 w.heap.size _ _ _ _ _ _ _ _ (textR a) w' [] A c hcap hcap2 (by simp) (by omega)
      (fun w'' hb => ⟨by rw [(ShB.kept h hb).blk.cell 5, hbox]; rfl, kid0 h1 (((ShB.kept h hb).be).mono hD)⟩)
      (fun w'' hb => IHa _ D w'' (ha.below ((ShB.kept h hb).be.mono hD)) (Nat.le_trans hD (ShB.kept h hb).be.size) (by omega)) hk
  have ht1 := textR_le b
  have hu1 := brT_le [5] b.kind (textR b)
  have s1 : (str (brT [5] b.kind (textR b))).size ≤ 190000 := by rw [size_str]; omega
  have s1' : (brT [5] b.kind (textR b)).length ≤ 190000 := by omega
  have CC0 : ∀ w', ShB w w' box → ∀ A c, SLk w' A [5] → Calls Try.prog 67 #[.int .i64 1, .slice A 1 c, .pointer (some ⟨w.heap.size, 0, none⟩)] w' fun e w'' => e = .returned (.string (str (brT [5] b.kind (textR b)))) ∧ Below w'.heap.size w' w'' :=
    fun w' h A c hk => hkb ▸ kid_1_2 ad cap5 w.heap.size _ _ _ _ _ _ _ _ (textR b) w' [5] A c hcap hcap2 (by simp) (by omega)
      (fun w'' hb => ⟨by rw [(ShB.kept h hb).blk.cell 5, hbox]; rfl, kid1 h2 (((ShB.kept h hb).be).mono hD)⟩)
      (fun w'' hb => IHc _ D w'' (hc.below ((ShB.kept h hb).be.mono hD)) (Nat.le_trans hD (ShB.kept h hb).be.size) (by omega)) hk
  have HT : Hid (textR (.alt a b) = brT [] a.kind (textR a) ++ 124 :: brT [5] b.kind (textR b)) := rfl
  obtain ⟨T, hT⟩ : ∃ T, T = brT [] a.kind (textR a) := ⟨_, rfl⟩
  obtain ⟨U, hU⟩ : ∃ U, U = brT [5] b.kind (textR b) := ⟨_, rfl⟩
  rw [← hT, ← hU] at HT
  rw [← hT] at CA0 s0 s0'
  rw [← hU] at CC0 s1 s1'
  have CA := Lib.hid CA0
  have CC := Lib.hid CC0
  have HB := Lib.hid hbx
  clear hbx hbox ha h1 IHa hka hea hc h2 IHc hkb hT CA0 ht0 hu0 hU CC0 ht1 hu1
  go_enter Try.func35, Try.ntmps35
  go_wp2_with fail
  refine (CA.out _ HB.out _ _ (.inl rfl)).mono ?_
  rintro e w1 ⟨rfl, hb⟩
  have HB1 := Lib.hid (ShB.kept HB.out hb)
  have hwl1 : w.heap.size < w1.heap.size := HB1.out.blk.lt
  clear hb
  clear k0
  go_wp2_with fail
  refine (CC.out _ (ShB.alloc HB1.out _) _ _ (.inr ⟨_, rfl, KB.new rfl [5]⟩)).mono ?_
  rintro e w2 ⟨rfl, hb⟩
  have HB2 := Lib.hid (ShB.kept (ShB.alloc HB1.out _) hb)
  have hwl2 : w.heap.size < w2.heap.size := HB2.out.blk.lt
  clear hb
  go_wp2_with fail
  go_ret
  exact ⟨ret_str (by rw [HT.out]; exact cat_alt), HB2.out.be⟩
theorem text_ok : ∀ q : Re, TextOk q
  | .none => fun cs D w h hD hz => by obtain ⟨A5, c5, rfl⟩ := h; exact rtext_none w A5 c5
  | .empty => fun cs D w h hD hz => by obtain ⟨A5, c5, rfl⟩ := h; exact rtext_empty w A5 c5
  | .beg => fun cs D w h hD hz => by obtain ⟨A5, c5, rfl⟩ := h; exact rtext_beg w A5 c5
  | .fin => fun cs D w h hD hz => by obtain ⟨A5, c5, rfl⟩ := h; exact rtext_fin w A5 c5
  | .byte s => fun cs D w h hD hz => by obtain ⟨hq, _, A5, c5, rfl⟩ := h; exact rtext_byte s hq w A5 c5
  | .star a => fun cs D w h hD hz => by
    obtain ⟨A5, c5, ca, rfl, h1, h2, h3, h4⟩ := h
    exact rtext_star a ca (text_ok a) D w A5 c5 hD h3 h4 h1 h2 (by simp only [Re.size] at hz; omega)
  | .cat a b => fun cs D w h hD hz => by
    obtain ⟨A5, c5, ca, cb, rfl, h1, h2, h3, h4, h5, h6⟩ := h
    exact rtext_cat a b ca cb (text_ok a) (text_ok b) D w A5 c5 hD h3 h4 h5 h6 h1 h2 (by simp only [Re.size] at hz; omega)
  | .alt a b => fun cs D w h hD hz => by
    obtain ⟨A5, c5, ca, cb, rfl, h1, h2, h3, h4, h5, h6⟩ := h
    exact rtext_alt a b ca cb (text_ok a) (text_ok b) D w A5 c5 hD h3 h4 h5 h6 h1 h2 (by simp only [Re.size] at hz; omega)
end Go.Proofs.Ytckinkapbfaceaa
