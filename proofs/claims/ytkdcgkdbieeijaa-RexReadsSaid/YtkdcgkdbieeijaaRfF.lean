/- Walk: (*wickref.text).piece. (printed by gen_rff.py) -/
import Derived.Test.YtkdcgkdbieeijaaRfB
import Derived.Test.YtkdcgkdbieeijaaRfC
namespace Go.Proofs.Ytkdcgkdbieeijaa
open Go.RowKit
set_option linter.unusedVariables false
set_option linter.unusedSimpArgs false

section
variable (k x0 x1 x2 x3 x4 : Int) (A : Option Addr) (l c : Nat) (w : World)
/-- what node answers for one part -/
def OneRes (k : Int) (ca : List Value) (w : World) (e : Ending) (w' : World) : Prop := ∃ N, e = .returned (.agg #[.int .i64 k, .int .u64 0, .int .u64 0, .int .u64 0, .int .u64 0, .slice (some ⟨N, 0, none⟩) 1 1]) ∧ (∀ j u, ca[j]? = some u → w'.cell? ⟨N, j, none⟩ = some u) ∧ w.heap.size ≤ N ∧ N < w'.heap.size ∧ Below w.heap.size w w'
theorem node_one : Calls Try.prog 34 #[.int .i64 k, .slice (some ⟨w.heap.size, 0, none⟩) 1 1] (w.alloc (.cells #[.int .i64 x0, .int .u64 x1, .int .u64 x2, .int .u64 x3, .int .u64 x4, .slice A l c] 27)) (OneRes k (six x0 x1 x2 x3 x4 A l c) w) := by
  refine (node_any k (some ⟨w.heap.size, 0, none⟩) 1 1 _).mono ?_
  rintro e w' ⟨rfl, hb⟩
  have hz := hb.size
  have hz1 : (w.alloc (.cells #[.int .i64 x0, .int .u64 x1, .int .u64 x2, .int .u64 x3, .int .u64 x4, .slice A l c] 27)).heap.size = w.heap.size + 1 := by simp
  refine ⟨w.heap.size, rfl, fun j u h => ?_, Nat.le_refl _, by omega, ((Below.refl w.heap.size w).alloc (Nat.le_refl _) _).trans (hb.mono (by omega))⟩
  rw [hb.cell (show w.heap.size < _ by omega)]
  exact new_cells w [.int .i64 x0, .int .u64 x1, .int .u64 x2, .int .u64 x3, .int .u64 x4, .slice A l c] _ j u h
end
set_option maxRecDepth 100000 in
set_option maxHeartbeats 16000000 in
theorem piece_okR (s : ByteArray) (hs : s.size ≤ 200) (op : Int) (hop : 0 ≤ op ∧ op ≤ 20) (R : Sx → Rx × Sx) (hRow : TsOk 67 op s R) (hGo : GoS s R) : TsOk 49 op s (pcF s R) := by
  intro g w x he hp hR
  have HROW := Lib.hid hRow
  have HGO := Lib.hid hGo
  clear hRow hGo
  obtain ⟨W, hW⟩ : ∃ W, w.alloc (.cells #[.int .i64 0, .int .u64 0, .int .u64 0, .int .u64 0, .int .u64 0, .slice none 0 0] 27) = W := ⟨_, rfl⟩
  have hWR : Tq (270 - op) W g s x op := by rw [← hW]; exact hR.alloc _
  have hWE : Blk W w.heap.size 27 #[.int .i64 0, .int .u64 0, .int .u64 0, .int .u64 0, .int .u64 0, .slice none 0 0] := by rw [← hW]; exact Blk.new w _ _
  have hWK : KeptOff w W g := by rw [← hW]; exact KeptOff.refl.alloc _
  have hglt : g < w.heap.size := hR.lt
  have hWz : W.heap.size = w.heap.size + 1 := by rw [← hW]; simp
  have C0 := Lib.hid (HROW.out g W x he hp hWR)
  have HWE := Lib.hid hWE
  have HWK := Lib.hid hWK
  have hY0 := HGO.out x he hp
  obtain ⟨F, hF⟩ : ∃ F, F = pcF s R x := ⟨_, rfl⟩
  rw [← hF]
  have hFx : F = lpP s (s.size + 1) (R x).1 (R x).2 := hF
  obtain ⟨Y0, hY⟩ : ∃ Y0, Y0 = R x := ⟨_, rfl⟩
  rw [← hY] at C0 hFx hY0
  have HF := Lib.hid hFx
  clear hWR hWE hWK hR hF hFx hY HROW HGO
  go_enter Try.func49, Try.ntmps49
  go_wp2_with fail
  refine C0.out.mono ?_
  rintro e w1 ⟨x0, x1, x2, x3, x4, xA, xl, xc, rfl, hr1, hk1, ht1⟩
  have hz1 : w.heap.size + 1 ≤ w1.heap.size := by have := hk1.size; omega
  have hX1 : Ty (270 - op) w g w1.heap.size s Y0.2 op (six x0 x1 x2 x3 x4 xA xl xc) (w1.alloc (.cells #[.int .i64 x0, .int .u64 x1, .int .u64 x2, .int .u64 x3, .int .u64 x4, .slice xA xl xc] 27)) := ⟨hr1.alloc _, Blk.alloc (hk1.blk HWE.out (by omega)) _, Blk.new w1 _ _, (HWK.out.tr hk1).alloc _, hglt, by omega⟩
  have HT1 : Hid (Y0.2.e = 0 → ∃ n, RxT (w1.alloc (.cells #[.int .i64 x0, .int .u64 x1, .int .u64 x2, .int .u64 x3, .int .u64 x4, .slice xA xl xc] 27)) (InT w w1.heap.size (w1.alloc (.cells #[.int .i64 x0, .int .u64 x1, .int .u64 x2, .int .u64 x3, .int .u64 x4, .slice xA xl xc] 27))) n Y0.1 (six x0 x1 x2 x3 x4 xA xl xc)) := Lib.hid fun hy => by
    obtain ⟨n, hn⟩ := ht1 hy
    refine ⟨n, (hn.below ((Below.refl _ _).alloc (Nat.le_refl _) _) fun b hb => hb.2).weak fun b hb => ⟨by omega, by simp; omega, by omega⟩⟩
  have HX1 := Lib.hid hX1
  clear hX1 hr1 hk1 ht1 hW hWz
  go_wp2_with fail
  obtain ⟨gT, hgT⟩ : ∃ gT, w1.heap.size = gT := ⟨_, rfl⟩
  rw [hgT] at HX1 HT1 ⊢
  obtain ⟨W1, hW1⟩ : ∃ W1, w1.alloc (.cells #[.int .i64 x0, .int .u64 x1, .int .u64 x2, .int .u64 x3, .int .u64 x4, .slice xA xl xc] 27) = W1 := ⟨_, rfl⟩
  rw [hW1] at HX1 HT1 ⊢
  clear hW1 hgT hz1
  go_loopg [8] (s.size + 1) (fun q _ wr => ∃ (m : Nat) (t : Rx) (y : Sx) (x0 x1 x2 x3 x4 : Int) (xA : Option Addr) (xl xc : Nat), q = m ∧ y.p ≤ s.size ∧ (y.e = 0 → s.size - y.p < m) ∧ Hid (F = lpP s m t y) ∧ Hid (Ty (270 - op) w g gT s y op (six x0 x1 x2 x3 x4 xA xl xc) wr) ∧ Hid (y.e = 0 → ∃ n, RxT wr (InT w gT wr) n t (six x0 x1 x2 x3 x4 xA xl xc)))
  case atStart => exact ⟨s.size + 1, Y0.1, Y0.2, x0, x1, x2, x3, x4, xA, xl, xc, rfl, hY0.hi, fun _ => by omega, HF, HX1, HT1⟩
  case round =>
    clear HX1 HT1 HF
    obtain ⟨m, t, y, x0, x1, x2, x3, x4, xA, xl, xc, hqm, hyp, hq, HFq, HX, HT⟩ := hrel
    have HG := Lib.hid hqm
    clear hqm
    have CP := Lib.hid (peek_q s hs (270 - op) y op g wr HX.out.rd)
    by_cases h42 : nx s y = 42
    · have hys := nx_some (s := s) (x := y) (by omega)
      have hys1 := hys.1
      have hys2 := hys.2
      obtain ⟨m, rfl⟩ : ∃ m', m = m' + 1 := ⟨m - 1, by have := hq hys1; omega⟩
      have hyq := hq hys1
      have hup := up_go (s := s) (x := y) (by omega)
      have hup1 : y.up.p = y.p + 1 := rfl
      have HF2 := Lib.hid (HFq.out.trans (lpP_star h42))
      have e42 : ((pk s y).toList == [42]) = true := by rw [pk_is]; exact beq_iff_eq.2 (show nx s y = 42 from h42)
      clear h42 hq hys HFq
      go_wp2_with fail
      refine CP.out.mono ?_
      rintro e w2 ⟨rfl, qq, hqq⟩
      have hbq : Below wr.heap.size wr w2 := by rw [hqq]; exact below_drewN (Below.refl _ _) qq
      have HX2 := Lib.hid (HX.out.step hbq)
      have HT2 : Hid (y.e = 0 → ∃ n, RxT w2 (InT w gT w2) n t (six x0 x1 x2 x3 x4 xA xl xc)) := Lib.hid fun hy => by
        obtain ⟨n, hn⟩ := HT.out hy
        exact ⟨n, (hn.below hbq fun b hb => hb.2.1).weak fun b hb => ⟨hb.1, Nat.lt_of_lt_of_le hb.2.1 hbq.size, hb.2.2⟩⟩
      clear hqq hbq CP HX HT
      obtain ⟨n, hn⟩ := HT2.out hys1
      have HN := Lib.hid hn
      clear hn HT2
      have s0 : w2.cell? ⟨gT, 0, none⟩ = some (.int .i64 x0) := HX2.out.te.cell 0
      have s1 : w2.cell? ⟨gT, 1, none⟩ = some (.int .u64 x1) := HX2.out.te.cell 1
      have s2 : w2.cell? ⟨gT, 2, none⟩ = some (.int .u64 x2) := HX2.out.te.cell 2
      have s3 : w2.cell? ⟨gT, 3, none⟩ = some (.int .u64 x3) := HX2.out.te.cell 3
      have s4 : w2.cell? ⟨gT, 4, none⟩ = some (.int .u64 x4) := HX2.out.te.cell 4
      have s5 : w2.cell? ⟨gT, 5, none⟩ = some (.slice xA xl xc) := HX2.out.te.cell 5
      have hgT2 : gT < w2.heap.size := Blk.lt HX2.out.te
      have hgl2 := HX2.out.gl
      go_wp2_with fail
      refine (node_one 6 x0 x1 x2 x3 x4 xA xl xc w2).mono ?_
      rintro e w4 ⟨N, rfl, hc4, hN1, hN2, hb4⟩
      have hx4 := HX2.out.step hb4
      have HXp := Lib.hid (hx4.put rfl 6 0 0 0 0 (some ⟨N, 0, none⟩) 1 1)
      have hz4 : w2.heap.size ≤ w4.heap.size := hb4.size
      have hz5 := size_put6 w4 gT 6 0 0 0 0 (some ⟨N, 0, none⟩) 1 1
      have HTp : Hid (∃ n, RxT ((((((w4.setCell ⟨gT, 0, none⟩ (.int .i64 6)).setCell ⟨gT, 1, none⟩ (.int .u64 0)).setCell ⟨gT, 2, none⟩ (.int .u64 0)).setCell ⟨gT, 3, none⟩ (.int .u64 0)).setCell ⟨gT, 4, none⟩ (.int .u64 0)).setCell ⟨gT, 5, none⟩ (.slice (some ⟨N, 0, none⟩) 1 1)) (InT w gT ((((((w4.setCell ⟨gT, 0, none⟩ (.int .i64 6)).setCell ⟨gT, 1, none⟩ (.int .u64 0)).setCell ⟨gT, 2, none⟩ (.int .u64 0)).setCell ⟨gT, 3, none⟩ (.int .u64 0)).setCell ⟨gT, 4, none⟩ (.int .u64 0)).setCell ⟨gT, 5, none⟩ (.slice (some ⟨N, 0, none⟩) 1 1))) n (tStar t) (six 6 0 0 0 0 (some ⟨N, 0, none⟩) 1 1)) := Lib.hid (by
        have b1 : RxT w4 (InT w gT w4) n t (six x0 x1 x2 x3 x4 xA xl xc) := (HN.out.below hb4 fun b hb => hb.2.1).weak fun b hb => ⟨hb.1, by have := hb.2.1; omega, hb.2.2⟩
        have c := RxT.star b1 (show InT w gT w4 N from ⟨by omega, hN2, by omega⟩) hc4
        exact ⟨_, (c.put6 (fun k => k.2.2 rfl) 6 0 0 0 0 (some ⟨N, 0, none⟩) 1 1).weak fun b hb => ⟨hb.1, by rw [hz5]; exact hb.2.1, hb.2.2⟩⟩)
      have u0 : w4.cell? ⟨gT, 0, none⟩ = some (.int .i64 x0) := hx4.te.cell 0
      have fu0 : w4.frozen? ⟨gT, 0, none⟩ = false := hx4.te.frozen 0
      have u1 : w4.cell? ⟨gT, 1, none⟩ = some (.int .u64 x1) := hx4.te.cell 1
      have fu1 : w4.frozen? ⟨gT, 1, none⟩ = false := hx4.te.frozen 1
      have u2 : w4.cell? ⟨gT, 2, none⟩ = some (.int .u64 x2) := hx4.te.cell 2
      have fu2 : w4.frozen? ⟨gT, 2, none⟩ = false := hx4.te.frozen 2
      have u3 : w4.cell? ⟨gT, 3, none⟩ = some (.int .u64 x3) := hx4.te.cell 3
      have fu3 : w4.frozen? ⟨gT, 3, none⟩ = false := hx4.te.frozen 3
      have u4 : w4.cell? ⟨gT, 4, none⟩ = some (.int .u64 x4) := hx4.te.cell 4
      have fu4 : w4.frozen? ⟨gT, 4, none⟩ = false := hx4.te.frozen 4
      have u5 : w4.cell? ⟨gT, 5, none⟩ = some (.slice xA xl xc) := hx4.te.cell 5
      have fu5 : w4.frozen? ⟨gT, 5, none⟩ = false := hx4.te.frozen 5
      clear hx4 hz5 hc4 hb4 s0 s1 s2 s3 s4 s5
      go_upto_region 13 with fail
      obtain ⟨Wp, hWp⟩ : ∃ Wp, ((((((w4.setCell ⟨gT, 0, none⟩ (.int .i64 6)).setCell ⟨gT, 1, none⟩ (.int .u64 0)).setCell ⟨gT, 2, none⟩ (.int .u64 0)).setCell ⟨gT, 3, none⟩ (.int .u64 0)).setCell ⟨gT, 4, none⟩ (.int .u64 0)).setCell ⟨gT, 5, none⟩ (.slice (some ⟨N, 0, none⟩) 1 1)) = Wp := ⟨_, rfl⟩
      rw [hWp] at HXp HTp ⊢
      clear hWp
      obtain ⟨rr, hrr⟩ := HXp.out.rd.at0 hys1
      have c1 := hrr.cell 1
      have cf1 := hrr.froz 1
      have hwp : IntKind.i64.wrap ((y.p : Int) + 1) = (y.p : Int) + 1 := IntWalk.i64_in _ (by omega)
      have HX5 := Lib.hid (HXp.out.up hys1 (by omega))
      have HT5 : Hid (y.up.e = 0 → ∃ n, RxT (Wp.setCell ⟨g, 1, none⟩ (.int .i64 ((y.p : Int) + 1))) (InT w gT (Wp.setCell ⟨g, 1, none⟩ (.int .i64 ((y.p : Int) + 1)))) n (tStar t) (six 6 0 0 0 0 (some ⟨N, 0, none⟩) 1 1)) := Lib.hid fun _ => by
        obtain ⟨n, hn⟩ := HTp.out
        have hgl := HXp.out.lt
        exact ⟨n, (hn.store (p := ⟨g, 1, none⟩) (fun k => by have := k.1; dsimp only at this; omega) _).weak fun b hb => ⟨hb.1, by simpa [World.setCell] using hb.2.1, hb.2.2⟩⟩
      clear hrr HXp HTp
      go_wp2_with fail
      go_roundg m
      case measure => rw [HG.out]; omega
      case rel => exact ⟨m, (tStar t), y.up, 6, 0, 0, 0, 0, some ⟨N, 0, none⟩, 1, 1, rfl, hup.hi, fun hy => by omega, HF2, HX5, HT5⟩
    · by_cases h63 : nx s y = 63
      · have hys := nx_some (s := s) (x := y) (by omega)
        have hys1 := hys.1
        have hys2 := hys.2
        obtain ⟨m, rfl⟩ : ∃ m', m = m' + 1 := ⟨m - 1, by have := hq hys1; omega⟩
        have hyq := hq hys1
        have hup := up_go (s := s) (x := y) (by omega)
        have hup1 : y.up.p = y.p + 1 := rfl
        have HF2 := Lib.hid (HFq.out.trans (lpP_may h63))
        have e42 : ((pk s y).toList == [42]) = false := by rw [pk_is]; exact beq_eq_false_iff_ne.2 (show ¬ nx s y = 42 from h42)
        have e63 : ((pk s y).toList == [63]) = true := by rw [pk_is]; exact beq_iff_eq.2 (show nx s y = 63 from h63)
        clear h42 h63 hq hys HFq
        go_wp2_with fail
        refine CP.out.mono ?_
        rintro e w2 ⟨rfl, qq, hqq⟩
        have hbq : Below wr.heap.size wr w2 := by rw [hqq]; exact below_drewN (Below.refl _ _) qq
        have HX2 := Lib.hid (HX.out.step hbq)
        have HT2 : Hid (y.e = 0 → ∃ n, RxT w2 (InT w gT w2) n t (six x0 x1 x2 x3 x4 xA xl xc)) := Lib.hid fun hy => by
          obtain ⟨n, hn⟩ := HT.out hy
          exact ⟨n, (hn.below hbq fun b hb => hb.2.1).weak fun b hb => ⟨hb.1, Nat.lt_of_lt_of_le hb.2.1 hbq.size, hb.2.2⟩⟩
        clear hqq hbq CP HX HT
        obtain ⟨n, hn⟩ := HT2.out hys1
        have HN := Lib.hid hn
        clear hn HT2
        have hxd := HX2.out.step (below_drewN (Below.refl _ _) 1 : Below w2.heap.size w2 w2.drew)
        have HNd : Hid (RxT w2.drew (InT w gT w2) n t (six x0 x1 x2 x3 x4 xA xl xc)) := Lib.hid (RxT.keep (w := w2) (w' := w2.drew) (fun _ hb => hb) (fun _ _ => rfl) HN.out)
        have s0 : w2.drew.cell? ⟨gT, 0, none⟩ = some (.int .i64 x0) := hxd.te.cell 0
        have fs0 : w2.drew.frozen? ⟨gT, 0, none⟩ = false := hxd.te.frozen 0
        have s1 : w2.drew.cell? ⟨gT, 1, none⟩ = some (.int .u64 x1) := hxd.te.cell 1
        have fs1 : w2.drew.frozen? ⟨gT, 1, none⟩ = false := hxd.te.frozen 1
        have s2 : w2.drew.cell? ⟨gT, 2, none⟩ = some (.int .u64 x2) := hxd.te.cell 2
        have fs2 : w2.drew.frozen? ⟨gT, 2, none⟩ = false := hxd.te.frozen 2
        have s3 : w2.drew.cell? ⟨gT, 3, none⟩ = some (.int .u64 x3) := hxd.te.cell 3
        have fs3 : w2.drew.frozen? ⟨gT, 3, none⟩ = false := hxd.te.frozen 3
        have s4 : w2.drew.cell? ⟨gT, 4, none⟩ = some (.int .u64 x4) := hxd.te.cell 4
        have fs4 : w2.drew.frozen? ⟨gT, 4, none⟩ = false := hxd.te.frozen 4
        have s5 : w2.drew.cell? ⟨gT, 5, none⟩ = some (.slice xA xl xc) := hxd.te.cell 5
        have fs5 : w2.drew.frozen? ⟨gT, 5, none⟩ = false := hxd.te.frozen 5
        go_wp2_with fail
        go_region_law (first
          | (go_simp; go_at_call 34; (refine (node_any 2 none 0 0 w2.drew).mono ?_); rintro e w3 ⟨rfl, hb3⟩; have hx3 := hxd.step hb3; have u0 : w3.cell? ⟨gT, 0, none⟩ = some (.int .i64 x0) := hx3.te.cell 0; have fu0 : w3.frozen? ⟨gT, 0, none⟩ = false := hx3.te.frozen 0; have u1 : w3.cell? ⟨gT, 1, none⟩ = some (.int .u64 x1) := hx3.te.cell 1; have fu1 : w3.frozen? ⟨gT, 1, none⟩ = false := hx3.te.frozen 1; have u2 : w3.cell? ⟨gT, 2, none⟩ = some (.int .u64 x2) := hx3.te.cell 2; have fu2 : w3.frozen? ⟨gT, 2, none⟩ = false := hx3.te.frozen 2; have u3 : w3.cell? ⟨gT, 3, none⟩ = some (.int .u64 x3) := hx3.te.cell 3; have fu3 : w3.frozen? ⟨gT, 3, none⟩ = false := hx3.te.frozen 3; have u4 : w3.cell? ⟨gT, 4, none⟩ = some (.int .u64 x4) := hx3.te.cell 4; have fu4 : w3.frozen? ⟨gT, 4, none⟩ = false := hx3.te.frozen 4; have u5 : w3.cell? ⟨gT, 5, none⟩ = some (.slice xA xl xc) := hx3.te.cell 5; have fu5 : w3.frozen? ⟨gT, 5, none⟩ = false := hx3.te.frozen 5)
          | (go_simp; go_at_call 34; (refine (node_two 5 x0 x1 x2 x3 x4 2 0 0 0 0 xA none xl xc 0 0 w3).mono ?_); rintro e w4 ⟨N, rfl, hc4, hN1, hN2, hb4⟩; have hx4 := hx3.step hb4; have q0 : w4.cell? ⟨gT, 0, none⟩ = some (.int .i64 x0) := hx4.te.cell 0; have fq0 : w4.frozen? ⟨gT, 0, none⟩ = false := hx4.te.frozen 0; have q1 : w4.cell? ⟨gT, 1, none⟩ = some (.int .u64 x1) := hx4.te.cell 1; have fq1 : w4.frozen? ⟨gT, 1, none⟩ = false := hx4.te.frozen 1; have q2 : w4.cell? ⟨gT, 2, none⟩ = some (.int .u64 x2) := hx4.te.cell 2; have fq2 : w4.frozen? ⟨gT, 2, none⟩ = false := hx4.te.frozen 2; have q3 : w4.cell? ⟨gT, 3, none⟩ = some (.int .u64 x3) := hx4.te.cell 3; have fq3 : w4.frozen? ⟨gT, 3, none⟩ = false := hx4.te.frozen 3; have q4 : w4.cell? ⟨gT, 4, none⟩ = some (.int .u64 x4) := hx4.te.cell 4; have fq4 : w4.frozen? ⟨gT, 4, none⟩ = false := hx4.te.frozen 4; have q5 : w4.cell? ⟨gT, 5, none⟩ = some (.slice xA xl xc) := hx4.te.cell 5; have fq5 : w4.frozen? ⟨gT, 5, none⟩ = false := hx4.te.frozen 5))
        all_goals
          have HXp := Lib.hid (hx4.put rfl 5 0 0 0 0 (some ⟨N, 0, none⟩) 2 2)
          have hgT2 : gT < w2.heap.size := Blk.lt hxd.te
          have hgl2 := HX2.out.gl
          have hz3 : w2.heap.size ≤ w3.heap.size := hb3.size
          have hz4 : w3.heap.size ≤ w4.heap.size := hb4.size
          have hz5 := size_put6 w4 gT 5 0 0 0 0 (some ⟨N, 0, none⟩) 2 2
          have HTp : Hid (∃ n, RxT ((((((w4.setCell ⟨gT, 0, none⟩ (.int .i64 5)).setCell ⟨gT, 1, none⟩ (.int .u64 0)).setCell ⟨gT, 2, none⟩ (.int .u64 0)).setCell ⟨gT, 3, none⟩ (.int .u64 0)).setCell ⟨gT, 4, none⟩ (.int .u64 0)).setCell ⟨gT, 5, none⟩ (.slice (some ⟨N, 0, none⟩) 2 2)) (InT w gT ((((((w4.setCell ⟨gT, 0, none⟩ (.int .i64 5)).setCell ⟨gT, 1, none⟩ (.int .u64 0)).setCell ⟨gT, 2, none⟩ (.int .u64 0)).setCell ⟨gT, 3, none⟩ (.int .u64 0)).setCell ⟨gT, 4, none⟩ (.int .u64 0)).setCell ⟨gT, 5, none⟩ (.slice (some ⟨N, 0, none⟩) 2 2))) n (tTwo 5 t (tOne 2)) (six 5 0 0 0 0 (some ⟨N, 0, none⟩) 2 2)) := Lib.hid (by
            have b0 : RxT w3 (InT w gT w2) n t (six x0 x1 x2 x3 x4 xA xl xc) := HNd.out.below hb3 fun b hb => hb.2.1
            have b1 : RxT w4 (InT w gT w4) n t (six x0 x1 x2 x3 x4 xA xl xc) := (b0.below hb4 fun b hb => by have := hb.2.1; omega).weak fun b hb => ⟨hb.1, by have := hb.2.1; omega, hb.2.2⟩
            have b2 : RxT w4 (InT w gT w4) 1 (tOne 2) (six 2 0 0 0 0 none 0 0) := RxT.leaf w4 _ 2 zq zq_ok (by decide) (by decide)
            have c := RxT.two (b1.up (Nat.le_max_left n 1)) (b2.up (Nat.le_max_right n 1)) rfl (show InT w gT w4 N from ⟨by omega, hN2, by omega⟩) hc4 5 (by decide) (by decide)
            exact ⟨_, (c.put6 (fun k => k.2.2 rfl) 5 0 0 0 0 (some ⟨N, 0, none⟩) 2 2).weak fun b hb => ⟨hb.1, by rw [hz5]; exact hb.2.1, hb.2.2⟩⟩)
          clear hx3 hx4 hb3 hc4 hb4 hxd hz5
          go_upto_region 13 with fail
          obtain ⟨Wp, hWp⟩ : ∃ Wp, ((((((w4.setCell ⟨gT, 0, none⟩ (.int .i64 5)).setCell ⟨gT, 1, none⟩ (.int .u64 0)).setCell ⟨gT, 2, none⟩ (.int .u64 0)).setCell ⟨gT, 3, none⟩ (.int .u64 0)).setCell ⟨gT, 4, none⟩ (.int .u64 0)).setCell ⟨gT, 5, none⟩ (.slice (some ⟨N, 0, none⟩) 2 2)) = Wp := ⟨_, rfl⟩
          rw [hWp] at HXp HTp ⊢
          clear hWp
          obtain ⟨rr, hrr⟩ := HXp.out.rd.at0 hys1
          have c1 := hrr.cell 1
          have cf1 := hrr.froz 1
          have hwp : IntKind.i64.wrap ((y.p : Int) + 1) = (y.p : Int) + 1 := IntWalk.i64_in _ (by omega)
          have HX5 := Lib.hid (HXp.out.up hys1 (by omega))
          have HT5 : Hid (y.up.e = 0 → ∃ n, RxT (Wp.setCell ⟨g, 1, none⟩ (.int .i64 ((y.p : Int) + 1))) (InT w gT (Wp.setCell ⟨g, 1, none⟩ (.int .i64 ((y.p : Int) + 1)))) n (tTwo 5 t (tOne 2)) (six 5 0 0 0 0 (some ⟨N, 0, none⟩) 2 2)) := Lib.hid fun _ => by
            obtain ⟨n, hn⟩ := HTp.out
            have hgl := HXp.out.lt
            exact ⟨n, (hn.store (p := ⟨g, 1, none⟩) (fun k => by have := k.1; dsimp only at this; omega) _).weak fun b hb => ⟨hb.1, by simpa [World.setCell] using hb.2.1, hb.2.2⟩⟩
          clear hrr HXp HTp
          go_wp2_with fail
          go_roundg m
          case measure => rw [HG.out]; omega
          case rel => exact ⟨m, (tTwo 5 t (tOne 2)), y.up, 5, 0, 0, 0, 0, some ⟨N, 0, none⟩, 2, 2, rfl, hup.hi, fun hy => by omega, HF2, HX5, HT5⟩
      · by_cases h43 : nx s y = 43
        · have hys := nx_some (s := s) (x := y) (by omega)
          have hys1 := hys.1
          have hys2 := hys.2
          obtain ⟨m, rfl⟩ : ∃ m', m = m' + 1 := ⟨m - 1, by have := hq hys1; omega⟩
          have hyq := hq hys1
          have hup := up_go (s := s) (x := y) (by omega)
          have hup1 : y.up.p = y.p + 1 := rfl
          have HF2 := Lib.hid (HFq.out.trans (lpP_plus h43))
          have e42 : ((pk s y).toList == [42]) = false := by rw [pk_is]; exact beq_eq_false_iff_ne.2 (show ¬ nx s y = 42 from h42)
          have e63 : ((pk s y).toList == [63]) = false := by rw [pk_is]; exact beq_eq_false_iff_ne.2 (show ¬ nx s y = 63 from h63)
          have e43 : ((pk s y).toList == [43]) = true := by rw [pk_is]; exact beq_iff_eq.2 (show nx s y = 43 from h43)
          clear h42 h63 h43 hq hys HFq
          go_wp2_with fail
          refine CP.out.mono ?_
          rintro e w2 ⟨rfl, qq, hqq⟩
          have hbq : Below wr.heap.size wr w2 := by rw [hqq]; exact below_drewN (Below.refl _ _) qq
          have HX2 := Lib.hid (HX.out.step hbq)
          have HT2 : Hid (y.e = 0 → ∃ n, RxT w2 (InT w gT w2) n t (six x0 x1 x2 x3 x4 xA xl xc)) := Lib.hid fun hy => by
            obtain ⟨n, hn⟩ := HT.out hy
            exact ⟨n, (hn.below hbq fun b hb => hb.2.1).weak fun b hb => ⟨hb.1, Nat.lt_of_lt_of_le hb.2.1 hbq.size, hb.2.2⟩⟩
          clear hqq hbq CP HX HT
          obtain ⟨n, hn⟩ := HT2.out hys1
          have HN := Lib.hid hn
          clear hn HT2
          have s0 : w2.cell? ⟨gT, 0, none⟩ = some (.int .i64 x0) := HX2.out.te.cell 0
          have s1 : w2.cell? ⟨gT, 1, none⟩ = some (.int .u64 x1) := HX2.out.te.cell 1
          have s2 : w2.cell? ⟨gT, 2, none⟩ = some (.int .u64 x2) := HX2.out.te.cell 2
          have s3 : w2.cell? ⟨gT, 3, none⟩ = some (.int .u64 x3) := HX2.out.te.cell 3
          have s4 : w2.cell? ⟨gT, 4, none⟩ = some (.int .u64 x4) := HX2.out.te.cell 4
          have s5 : w2.cell? ⟨gT, 5, none⟩ = some (.slice xA xl xc) := HX2.out.te.cell 5
          have hgT2 : gT < w2.heap.size := Blk.lt HX2.out.te
          have hglt2 := HX2.out.lt
          have hgl0 := HX2.out.gl
          have hba : Below w2.heap.size w2 (w2.alloc (.cells #[.int .i64 x0, .int .u64 x1, .int .u64 x2, .int .u64 x3, .int .u64 x4, .slice xA xl xc] 27)) := (Below.refl _ _).alloc (Nat.le_refl _) _
          have hx3 := HX2.out.step hba
          have hb3 : Blk (w2.alloc (.cells #[.int .i64 x0, .int .u64 x1, .int .u64 x2, .int .u64 x3, .int .u64 x4, .slice xA xl xc] 27)) w2.heap.size 27 #[.int .i64 x0, .int .u64 x1, .int .u64 x2, .int .u64 x3, .int .u64 x4, .slice xA xl xc] := Blk.new w2 _ _
          have ht3 : RxT (w2.alloc (.cells #[.int .i64 x0, .int .u64 x1, .int .u64 x2, .int .u64 x3, .int .u64 x4, .slice xA xl xc] 27)) (InT w gT w2) n t (six x0 x1 x2 x3 x4 xA xl xc) := HN.out.below hba fun b hb => hb.2.1
          clear hba
          go_upto_region 10 with fail
          obtain ⟨w3, hw3⟩ : ∃ w3, (w2.alloc (.cells #[.int .i64 x0, .int .u64 x1, .int .u64 x2, .int .u64 x3, .int .u64 x4, .slice xA xl xc] 27)) = w3 := ⟨_, rfl⟩
          have hz3 : w2.heap.size < w3.heap.size := by rw [← hw3]; simp
          rw [hw3] at hx3 hb3 ht3 ⊢
          obtain ⟨g4, hg4⟩ : ∃ g4, w2.heap.size = g4 := ⟨_, rfl⟩
          rw [hg4] at hb3 hz3 hgT2 ⊢
          replace ht3 : RxT w3 (fun b => w.heap.size < b ∧ b < g4 ∧ b ≠ gT) n t (six x0 x1 x2 x3 x4 xA xl xc) := ht3.weak fun b hb => ⟨hb.1, by have := hb.2.1; omega, hb.2.2⟩
          have HX3 := Lib.hid hx3
          have HB3 := Lib.hid hb3
          have HT3 := Lib.hid ht3
          have CZ : Hid (Calls Try.prog 68 #[.agg #[.int .i64 x0, .int .u64 x1, .int .u64 x2, .int .u64 x3, .int .u64 x4, .slice xA xl xc], .int .i64 0] w3 fun e w' => e = .returned (.int .i64 (wt82 0 t : Int)) ∧ Below w3.heap.size w3 w') := Lib.hid (weight_any n t (six x0 x1 x2 x3 x4 xA xl xc) 0 g4 w3 (ht3.rxC fun b hb => hb.2.1) (by omega) (by omega))
          clear s0 s1 s2 s3 s4 s5
          have s0 : w3.cell? ⟨gT, 0, none⟩ = some (.int .i64 x0) := HX3.out.te.cell 0
          have s1 : w3.cell? ⟨gT, 1, none⟩ = some (.int .u64 x1) := HX3.out.te.cell 1
          have s2 : w3.cell? ⟨gT, 2, none⟩ = some (.int .u64 x2) := HX3.out.te.cell 2
          have s3 : w3.cell? ⟨gT, 3, none⟩ = some (.int .u64 x3) := HX3.out.te.cell 3
          have s4 : w3.cell? ⟨gT, 4, none⟩ = some (.int .u64 x4) := HX3.out.te.cell 4
          have s5 : w3.cell? ⟨gT, 5, none⟩ = some (.slice xA xl xc) := HX3.out.te.cell 5
          clear hx3 hb3 ht3 hw3 hg4 HX2 HN
          go_wp2_with fail
          refine CZ.out.mono ?_
          rintro e w5 ⟨rfl, hb5⟩
          have HX5' := Lib.hid (HX3.out.step hb5)
          have HB5 := Lib.hid (HB3.out.below hb5 HB3.out.lt)
          have HT6 : Hid (RxT w5 (fun b => w.heap.size < b ∧ b < g4 ∧ b ≠ gT) n t (six x0 x1 x2 x3 x4 xA xl xc)) := Lib.hid (HT3.out.below hb5 fun b hb => by have := hb.2.1; omega)
          have hz5' : w3.heap.size ≤ w5.heap.size := hb5.size
          clear hb5 CZ HX3 HB3 HT3 s0 s1 s2 s3 s4 s5
          by_cases hsz : szR t ≤ 80
          · have HAG : Hid (tAgain t = t) := Lib.hid (if_pos hsz)
            have hcap : wt82 0 t ≤ 80 := by unfold wt82; rw [cap82_iff]; omega
            have hci : decide (80 < ((wt82 0 t : Nat) : Int)) = false := decide_eq_false (by omega)
            have hci2 : ¬ 80 < ((wt82 0 t : Nat) : Int) := by omega
            have HX7 := HX5'
            have HB4 := HB5
            have HTt : Hid (RxT w5 (InT w gT w5) n t (six x0 x1 x2 x3 x4 xA xl xc)) := Lib.hid (HT6.out.weak fun b hb => ⟨hb.1, by have := hb.2.1; omega, hb.2.2⟩)
            have HTa : Hid (∃ n, RxT w5 (InT w gT w5) n t (six x0 x1 x2 x3 x4 xA xl xc)) := Lib.hid ⟨n, HTt.out⟩
            clear hsz hcap HX5' HB5 HT6
            go_upto_region 12 with fail
            have hxd := HX7.out.step (below_drewN (Below.refl _ _) 1 : Below w5.heap.size w5 w5.drew)
            have hbd : Blk w5.drew g4 27 #[.int .i64 x0, .int .u64 x1, .int .u64 x2, .int .u64 x3, .int .u64 x4, .slice xA xl xc] := HB4.out.drew
            have HTtd : Hid (RxT w5.drew (InT w gT w5) n t (six x0 x1 x2 x3 x4 xA xl xc)) := Lib.hid (RxT.keep (w := w5) (w' := w5.drew) (fun _ hb => hb) (fun _ _ => rfl) HTt.out)
            have HTad : Hid (∃ n, RxT w5.drew (InT w gT w5) n t (six x0 x1 x2 x3 x4 xA xl xc)) := Lib.hid (by
              obtain ⟨na, ha⟩ := HTa.out
              exact ⟨na, RxT.keep (w := w5) (w' := w5.drew) (fun _ hb => hb) (fun _ _ => rfl) ha⟩)
            have s0 : w5.drew.cell? ⟨gT, 0, none⟩ = some (.int .i64 x0) := hxd.te.cell 0
            have fs0 : w5.drew.frozen? ⟨gT, 0, none⟩ = false := hxd.te.frozen 0
            have s1 : w5.drew.cell? ⟨gT, 1, none⟩ = some (.int .u64 x1) := hxd.te.cell 1
            have fs1 : w5.drew.frozen? ⟨gT, 1, none⟩ = false := hxd.te.frozen 1
            have s2 : w5.drew.cell? ⟨gT, 2, none⟩ = some (.int .u64 x2) := hxd.te.cell 2
            have fs2 : w5.drew.frozen? ⟨gT, 2, none⟩ = false := hxd.te.frozen 2
            have s3 : w5.drew.cell? ⟨gT, 3, none⟩ = some (.int .u64 x3) := hxd.te.cell 3
            have fs3 : w5.drew.frozen? ⟨gT, 3, none⟩ = false := hxd.te.frozen 3
            have s4 : w5.drew.cell? ⟨gT, 4, none⟩ = some (.int .u64 x4) := hxd.te.cell 4
            have fs4 : w5.drew.frozen? ⟨gT, 4, none⟩ = false := hxd.te.frozen 4
            have s5 : w5.drew.cell? ⟨gT, 5, none⟩ = some (.slice xA xl xc) := hxd.te.cell 5
            have fs5 : w5.drew.frozen? ⟨gT, 5, none⟩ = false := hxd.te.frozen 5
            have t0 : w5.drew.cell? ⟨g4, 0, none⟩ = some (.int .i64 x0) := hbd.cell 0
            have t1 : w5.drew.cell? ⟨g4, 1, none⟩ = some (.int .u64 x1) := hbd.cell 1
            have t2 : w5.drew.cell? ⟨g4, 2, none⟩ = some (.int .u64 x2) := hbd.cell 2
            have t3 : w5.drew.cell? ⟨g4, 3, none⟩ = some (.int .u64 x3) := hbd.cell 3
            have t4 : w5.drew.cell? ⟨g4, 4, none⟩ = some (.int .u64 x4) := hbd.cell 4
            have t5 : w5.drew.cell? ⟨g4, 5, none⟩ = some (.slice xA xl xc) := hbd.cell 5
            have m0 : (w5.alloc (.cells #[.int .i64 x0, .int .u64 x1, .int .u64 x2, .int .u64 x3, .int .u64 x4, .slice xA xl xc] 27)).cell? ⟨gT, 0, none⟩ = some (.int .i64 x0) := (Blk.alloc HX7.out.te _).cell 0
            have m1 : (w5.alloc (.cells #[.int .i64 x0, .int .u64 x1, .int .u64 x2, .int .u64 x3, .int .u64 x4, .slice xA xl xc] 27)).cell? ⟨gT, 1, none⟩ = some (.int .u64 x1) := (Blk.alloc HX7.out.te _).cell 1
            have m2 : (w5.alloc (.cells #[.int .i64 x0, .int .u64 x1, .int .u64 x2, .int .u64 x3, .int .u64 x4, .slice xA xl xc] 27)).cell? ⟨gT, 2, none⟩ = some (.int .u64 x2) := (Blk.alloc HX7.out.te _).cell 2
            have m3 : (w5.alloc (.cells #[.int .i64 x0, .int .u64 x1, .int .u64 x2, .int .u64 x3, .int .u64 x4, .slice xA xl xc] 27)).cell? ⟨gT, 3, none⟩ = some (.int .u64 x3) := (Blk.alloc HX7.out.te _).cell 3
            have m4 : (w5.alloc (.cells #[.int .i64 x0, .int .u64 x1, .int .u64 x2, .int .u64 x3, .int .u64 x4, .slice xA xl xc] 27)).cell? ⟨gT, 4, none⟩ = some (.int .u64 x4) := (Blk.alloc HX7.out.te _).cell 4
            have m5 : (w5.alloc (.cells #[.int .i64 x0, .int .u64 x1, .int .u64 x2, .int .u64 x3, .int .u64 x4, .slice xA xl xc] 27)).cell? ⟨gT, 5, none⟩ = some (.slice xA xl xc) := (Blk.alloc HX7.out.te _).cell 5
            go_wp2_with fail
            go_region_law (first
              | (go_simp; go_at_call 34; (refine (node_one 6 x0 x1 x2 x3 x4 xA xl xc w5.drew).mono ?_); rintro e w3 ⟨N3, rfl, hc3, hN3, hN4, hb3⟩; have hx3 := hxd.step hb3; have u0 : w3.cell? ⟨gT, 0, none⟩ = some (.int .i64 x0) := hx3.te.cell 0; have fu0 : w3.frozen? ⟨gT, 0, none⟩ = false := hx3.te.frozen 0; have u1 : w3.cell? ⟨gT, 1, none⟩ = some (.int .u64 x1) := hx3.te.cell 1; have fu1 : w3.frozen? ⟨gT, 1, none⟩ = false := hx3.te.frozen 1; have u2 : w3.cell? ⟨gT, 2, none⟩ = some (.int .u64 x2) := hx3.te.cell 2; have fu2 : w3.frozen? ⟨gT, 2, none⟩ = false := hx3.te.frozen 2; have u3 : w3.cell? ⟨gT, 3, none⟩ = some (.int .u64 x3) := hx3.te.cell 3; have fu3 : w3.frozen? ⟨gT, 3, none⟩ = false := hx3.te.frozen 3; have u4 : w3.cell? ⟨gT, 4, none⟩ = some (.int .u64 x4) := hx3.te.cell 4; have fu4 : w3.frozen? ⟨gT, 4, none⟩ = false := hx3.te.frozen 4; have u5 : w3.cell? ⟨gT, 5, none⟩ = some (.slice xA xl xc) := hx3.te.cell 5; have fu5 : w3.frozen? ⟨gT, 5, none⟩ = false := hx3.te.frozen 5)
              | (go_simp; go_at_call 34; (refine (node_two 4 x0 x1 x2 x3 x4 6 0 0 0 0 xA (some ⟨N3, 0, none⟩) xl xc 1 1 w3).mono ?_); rintro e w4 ⟨N, rfl, hc4, hN1, hN2, hb4⟩; have hx4 := hx3.step hb4; have q0 : w4.cell? ⟨gT, 0, none⟩ = some (.int .i64 x0) := hx4.te.cell 0; have fq0 : w4.frozen? ⟨gT, 0, none⟩ = false := hx4.te.frozen 0; have q1 : w4.cell? ⟨gT, 1, none⟩ = some (.int .u64 x1) := hx4.te.cell 1; have fq1 : w4.frozen? ⟨gT, 1, none⟩ = false := hx4.te.frozen 1; have q2 : w4.cell? ⟨gT, 2, none⟩ = some (.int .u64 x2) := hx4.te.cell 2; have fq2 : w4.frozen? ⟨gT, 2, none⟩ = false := hx4.te.frozen 2; have q3 : w4.cell? ⟨gT, 3, none⟩ = some (.int .u64 x3) := hx4.te.cell 3; have fq3 : w4.frozen? ⟨gT, 3, none⟩ = false := hx4.te.frozen 3; have q4 : w4.cell? ⟨gT, 4, none⟩ = some (.int .u64 x4) := hx4.te.cell 4; have fq4 : w4.frozen? ⟨gT, 4, none⟩ = false := hx4.te.frozen 4; have q5 : w4.cell? ⟨gT, 5, none⟩ = some (.slice xA xl xc) := hx4.te.cell 5; have fq5 : w4.frozen? ⟨gT, 5, none⟩ = false := hx4.te.frozen 5))
            all_goals
              have HXp := Lib.hid (hx4.put rfl 4 0 0 0 0 (some ⟨N, 0, none⟩) 2 2)
              have hgT2 : gT < w5.heap.size := Blk.lt hxd.te
              have hgl2 := HX7.out.gl
              have hz3 : w5.heap.size ≤ w3.heap.size := hb3.size
              have hN3' : w5.heap.size ≤ N3 := hN3
              have hz4 : w3.heap.size ≤ w4.heap.size := hb4.size
              have hz5 := size_put6 w4 gT 4 0 0 0 0 (some ⟨N, 0, none⟩) 2 2
              have HTp : Hid (∃ n, RxT ((((((w4.setCell ⟨gT, 0, none⟩ (.int .i64 4)).setCell ⟨gT, 1, none⟩ (.int .u64 0)).setCell ⟨gT, 2, none⟩ (.int .u64 0)).setCell ⟨gT, 3, none⟩ (.int .u64 0)).setCell ⟨gT, 4, none⟩ (.int .u64 0)).setCell ⟨gT, 5, none⟩ (.slice (some ⟨N, 0, none⟩) 2 2)) (InT w gT ((((((w4.setCell ⟨gT, 0, none⟩ (.int .i64 4)).setCell ⟨gT, 1, none⟩ (.int .u64 0)).setCell ⟨gT, 2, none⟩ (.int .u64 0)).setCell ⟨gT, 3, none⟩ (.int .u64 0)).setCell ⟨gT, 4, none⟩ (.int .u64 0)).setCell ⟨gT, 5, none⟩ (.slice (some ⟨N, 0, none⟩) 2 2))) n (tTwo 4 t (tStar (tAgain t))) (six 4 0 0 0 0 (some ⟨N, 0, none⟩) 2 2)) := Lib.hid (by
                obtain ⟨na, ha⟩ := HTad.out
                have a3 : RxT w3 (InT w gT w3) na t (six x0 x1 x2 x3 x4 xA xl xc) := (ha.below hb3 fun b hb => hb.2.1).weak fun b hb => ⟨hb.1, by have := hb.2.1; omega, hb.2.2⟩
                have s3 := RxT.star a3 (show InT w gT w3 N3 from ⟨by omega, hN4, by omega⟩) hc3
                have b0 : RxT w3 (InT w gT w5) n t (six x0 x1 x2 x3 x4 xA xl xc) := HTtd.out.below hb3 fun b hb => hb.2.1
                have b1 : RxT w4 (InT w gT w4) n t (six x0 x1 x2 x3 x4 xA xl xc) := (b0.below hb4 fun b hb => by have := hb.2.1; omega).weak fun b hb => ⟨hb.1, by have := hb.2.1; omega, hb.2.2⟩
                have b2 : RxT w4 (InT w gT w4) (na + 1) (tStar t) (six 6 0 0 0 0 (some ⟨N3, 0, none⟩) 1 1) := (s3.below hb4 fun b hb => hb.2.1).weak fun b hb => ⟨hb.1, by have := hb.2.1; omega, hb.2.2⟩
                rw [HAG.out]
                have c := RxT.two (b1.up (Nat.le_max_left n (na + 1))) (b2.up (Nat.le_max_right n (na + 1))) rfl (show InT w gT w4 N from ⟨by omega, hN2, by omega⟩) hc4 4 (by decide) (by decide)
                exact ⟨_, (c.put6 (fun k => k.2.2 rfl) 4 0 0 0 0 (some ⟨N, 0, none⟩) 2 2).weak fun b hb => ⟨hb.1, by rw [hz5]; exact hb.2.1, hb.2.2⟩⟩)
              clear hx3 hx4 hb3 hc3 hc4 hb4 hxd hbd hz5
              go_upto_region 13 with fail
              obtain ⟨Wp, hWp⟩ : ∃ Wp, ((((((w4.setCell ⟨gT, 0, none⟩ (.int .i64 4)).setCell ⟨gT, 1, none⟩ (.int .u64 0)).setCell ⟨gT, 2, none⟩ (.int .u64 0)).setCell ⟨gT, 3, none⟩ (.int .u64 0)).setCell ⟨gT, 4, none⟩ (.int .u64 0)).setCell ⟨gT, 5, none⟩ (.slice (some ⟨N, 0, none⟩) 2 2)) = Wp := ⟨_, rfl⟩
              rw [hWp] at HXp HTp ⊢
              clear hWp
              obtain ⟨rr, hrr⟩ := HXp.out.rd.at0 hys1
              have c1 := hrr.cell 1
              have cf1 := hrr.froz 1
              have hwp : IntKind.i64.wrap ((y.p : Int) + 1) = (y.p : Int) + 1 := IntWalk.i64_in _ (by omega)
              have HX5 := Lib.hid (HXp.out.up hys1 (by omega))
              have HT5 : Hid (y.up.e = 0 → ∃ n, RxT (Wp.setCell ⟨g, 1, none⟩ (.int .i64 ((y.p : Int) + 1))) (InT w gT (Wp.setCell ⟨g, 1, none⟩ (.int .i64 ((y.p : Int) + 1)))) n (tTwo 4 t (tStar (tAgain t))) (six 4 0 0 0 0 (some ⟨N, 0, none⟩) 2 2)) := Lib.hid fun _ => by
                obtain ⟨n, hn⟩ := HTp.out
                have hgl := HXp.out.lt
                exact ⟨n, (hn.store (p := ⟨g, 1, none⟩) (fun k => by have := k.1; dsimp only at this; omega) _).weak fun b hb => ⟨hb.1, by simpa [World.setCell] using hb.2.1, hb.2.2⟩⟩
              clear hrr HXp HTp
              go_wp2_with fail
              go_roundg m
              case measure => rw [HG.out]; omega
              case rel => exact ⟨m, (tTwo 4 t (tStar (tAgain t))), y.up, 4, 0, 0, 0, 0, some ⟨N, 0, none⟩, 2, 2, rfl, hup.hi, fun hy => by omega, HF2, HX5, HT5⟩
          · have HAG : Hid (tAgain t = tOne 2) := Lib.hid (if_neg hsz)
            have hcap : ¬ wt82 0 t ≤ 80 := by unfold wt82; rw [cap82_iff]; omega
            have hci : decide (80 < ((wt82 0 t : Nat) : Int)) = true := decide_eq_true (by omega)
            have hci2 : 80 < ((wt82 0 t : Nat) : Int) := by omega
            clear hsz hcap
            go_wp2_with fail
            refine (node_any 2 none 0 0 w5).mono ?_
            rintro e w6 ⟨rfl, hb6⟩
            have HX6 := Lib.hid (HX5'.out.step hb6)
            have HB6 := Lib.hid (HB5.out.below hb6 HB5.out.lt)
            have HT7 : Hid (RxT w6 (fun b => w.heap.size < b ∧ b < g4 ∧ b ≠ gT) n t (six x0 x1 x2 x3 x4 xA xl xc)) := Lib.hid (HT6.out.below hb6 fun b hb => by have := hb.2.1; omega)
            have hz6 : w5.heap.size ≤ w6.heap.size := hb6.size
            have HXp := Lib.hid (HX6.out.other (show w.heap.size < g4 by omega) (by omega) 2 0 0 0 0 none 0 0)
            have HBp := Lib.hid (six_put (cs := [.int .i64 x0, .int .u64 x1, .int .u64 x2, .int .u64 x3, .int .u64 x4, .slice xA xl xc]) HB6.out rfl 2 0 0 0 0 none 0 0)
            have hzp := size_put6 w6 g4 2 0 0 0 0 none 0 0
            have HTt0 : Hid (RxT ((((((w6.setCell ⟨g4, 0, none⟩ (.int .i64 2)).setCell ⟨g4, 1, none⟩ (.int .u64 0)).setCell ⟨g4, 2, none⟩ (.int .u64 0)).setCell ⟨g4, 3, none⟩ (.int .u64 0)).setCell ⟨g4, 4, none⟩ (.int .u64 0)).setCell ⟨g4, 5, none⟩ (.slice none 0 0)) (fun b => w.heap.size < b ∧ b < g4 ∧ b ≠ gT) n t (six x0 x1 x2 x3 x4 xA xl xc)) := Lib.hid (HT7.out.put6 (fun k => Nat.lt_irrefl _ k.2.1) 2 0 0 0 0 none 0 0)
            clear hb6 HX5' HB5 HT6
            have t0 : w6.cell? ⟨g4, 0, none⟩ = some (.int .i64 x0) := HB6.out.cell 0
            have ft0 : w6.frozen? ⟨g4, 0, none⟩ = false := HB6.out.frozen 0
            have t1 : w6.cell? ⟨g4, 1, none⟩ = some (.int .u64 x1) := HB6.out.cell 1
            have ft1 : w6.frozen? ⟨g4, 1, none⟩ = false := HB6.out.frozen 1
            have t2 : w6.cell? ⟨g4, 2, none⟩ = some (.int .u64 x2) := HB6.out.cell 2
            have ft2 : w6.frozen? ⟨g4, 2, none⟩ = false := HB6.out.frozen 2
            have t3 : w6.cell? ⟨g4, 3, none⟩ = some (.int .u64 x3) := HB6.out.cell 3
            have ft3 : w6.frozen? ⟨g4, 3, none⟩ = false := HB6.out.frozen 3
            have t4 : w6.cell? ⟨g4, 4, none⟩ = some (.int .u64 x4) := HB6.out.cell 4
            have ft4 : w6.frozen? ⟨g4, 4, none⟩ = false := HB6.out.frozen 4
            have t5 : w6.cell? ⟨g4, 5, none⟩ = some (.slice xA xl xc) := HB6.out.cell 5
            have ft5 : w6.frozen? ⟨g4, 5, none⟩ = false := HB6.out.frozen 5
            go_upto_region 12 with fail
            obtain ⟨w7, hw7⟩ : ∃ w7, ((((((w6.setCell ⟨g4, 0, none⟩ (.int .i64 2)).setCell ⟨g4, 1, none⟩ (.int .u64 0)).setCell ⟨g4, 2, none⟩ (.int .u64 0)).setCell ⟨g4, 3, none⟩ (.int .u64 0)).setCell ⟨g4, 4, none⟩ (.int .u64 0)).setCell ⟨g4, 5, none⟩ (.slice none 0 0)) = w7 := ⟨_, rfl⟩
            have HX7 : Hid (Ty (270 - op) w g gT s y op (six x0 x1 x2 x3 x4 xA xl xc) w7) := Lib.hid (by rw [← hw7]; exact HXp.out)
            have HB4 : Hid (Blk w7 g4 27 #[.int .i64 2, .int .u64 0, .int .u64 0, .int .u64 0, .int .u64 0, .slice none 0 0]) := Lib.hid (by rw [← hw7]; exact HBp.out)
            have HTt : Hid (RxT w7 (InT w gT w7) n t (six x0 x1 x2 x3 x4 xA xl xc)) := Lib.hid (by rw [← hw7]; exact HTt0.out.weak fun b hb => ⟨hb.1, by rw [hzp]; have := hb.2.1; omega, hb.2.2⟩)
            have HTa : Hid (∃ n, RxT w7 (InT w gT w7) n (tOne 2) (six 2 0 0 0 0 none 0 0)) := Lib.hid ⟨1, RxT.leaf w7 _ 2 zq zq_ok (by decide) (by decide)⟩
            rw [hw7]
            clear hw7 HXp HBp hzp HTt0 HX6 HB6 HT7 t0 t1 t2 t3 t4 t5 ft0 ft1 ft2 ft3 ft4 ft5
            have hxd := HX7.out.step (below_drewN (Below.refl _ _) 1 : Below w7.heap.size w7 w7.drew)
            have hbd : Blk w7.drew g4 27 #[.int .i64 2, .int .u64 0, .int .u64 0, .int .u64 0, .int .u64 0, .slice none 0 0] := HB4.out.drew
            have HTtd : Hid (RxT w7.drew (InT w gT w7) n t (six x0 x1 x2 x3 x4 xA xl xc)) := Lib.hid (RxT.keep (w := w7) (w' := w7.drew) (fun _ hb => hb) (fun _ _ => rfl) HTt.out)
            have HTad : Hid (∃ n, RxT w7.drew (InT w gT w7) n (tOne 2) (six 2 0 0 0 0 none 0 0)) := Lib.hid (by
              obtain ⟨na, ha⟩ := HTa.out
              exact ⟨na, RxT.keep (w := w7) (w' := w7.drew) (fun _ hb => hb) (fun _ _ => rfl) ha⟩)
            have s0 : w7.drew.cell? ⟨gT, 0, none⟩ = some (.int .i64 x0) := hxd.te.cell 0
            have fs0 : w7.drew.frozen? ⟨gT, 0, none⟩ = false := hxd.te.frozen 0
            have s1 : w7.drew.cell? ⟨gT, 1, none⟩ = some (.int .u64 x1) := hxd.te.cell 1
            have fs1 : w7.drew.frozen? ⟨gT, 1, none⟩ = false := hxd.te.frozen 1
            have s2 : w7.drew.cell? ⟨gT, 2, none⟩ = some (.int .u64 x2) := hxd.te.cell 2
            have fs2 : w7.drew.frozen? ⟨gT, 2, none⟩ = false := hxd.te.frozen 2
            have s3 : w7.drew.cell? ⟨gT, 3, none⟩ = some (.int .u64 x3) := hxd.te.cell 3
            have fs3 : w7.drew.frozen? ⟨gT, 3, none⟩ = false := hxd.te.frozen 3
            have s4 : w7.drew.cell? ⟨gT, 4, none⟩ = some (.int .u64 x4) := hxd.te.cell 4
            have fs4 : w7.drew.frozen? ⟨gT, 4, none⟩ = false := hxd.te.frozen 4
            have s5 : w7.drew.cell? ⟨gT, 5, none⟩ = some (.slice xA xl xc) := hxd.te.cell 5
            have fs5 : w7.drew.frozen? ⟨gT, 5, none⟩ = false := hxd.te.frozen 5
            have t0 : w7.drew.cell? ⟨g4, 0, none⟩ = some (.int .i64 2) := hbd.cell 0
            have t1 : w7.drew.cell? ⟨g4, 1, none⟩ = some (.int .u64 0) := hbd.cell 1
            have t2 : w7.drew.cell? ⟨g4, 2, none⟩ = some (.int .u64 0) := hbd.cell 2
            have t3 : w7.drew.cell? ⟨g4, 3, none⟩ = some (.int .u64 0) := hbd.cell 3
            have t4 : w7.drew.cell? ⟨g4, 4, none⟩ = some (.int .u64 0) := hbd.cell 4
            have t5 : w7.drew.cell? ⟨g4, 5, none⟩ = some (.slice none 0 0) := hbd.cell 5
            have m0 : (w7.alloc (.cells #[.int .i64 2, .int .u64 0, .int .u64 0, .int .u64 0, .int .u64 0, .slice none 0 0] 27)).cell? ⟨gT, 0, none⟩ = some (.int .i64 x0) := (Blk.alloc HX7.out.te _).cell 0
            have m1 : (w7.alloc (.cells #[.int .i64 2, .int .u64 0, .int .u64 0, .int .u64 0, .int .u64 0, .slice none 0 0] 27)).cell? ⟨gT, 1, none⟩ = some (.int .u64 x1) := (Blk.alloc HX7.out.te _).cell 1
            have m2 : (w7.alloc (.cells #[.int .i64 2, .int .u64 0, .int .u64 0, .int .u64 0, .int .u64 0, .slice none 0 0] 27)).cell? ⟨gT, 2, none⟩ = some (.int .u64 x2) := (Blk.alloc HX7.out.te _).cell 2
            have m3 : (w7.alloc (.cells #[.int .i64 2, .int .u64 0, .int .u64 0, .int .u64 0, .int .u64 0, .slice none 0 0] 27)).cell? ⟨gT, 3, none⟩ = some (.int .u64 x3) := (Blk.alloc HX7.out.te _).cell 3
            have m4 : (w7.alloc (.cells #[.int .i64 2, .int .u64 0, .int .u64 0, .int .u64 0, .int .u64 0, .slice none 0 0] 27)).cell? ⟨gT, 4, none⟩ = some (.int .u64 x4) := (Blk.alloc HX7.out.te _).cell 4
            have m5 : (w7.alloc (.cells #[.int .i64 2, .int .u64 0, .int .u64 0, .int .u64 0, .int .u64 0, .slice none 0 0] 27)).cell? ⟨gT, 5, none⟩ = some (.slice xA xl xc) := (Blk.alloc HX7.out.te _).cell 5
            go_wp2_with fail
            go_region_law (first
              | (go_simp; go_at_call 34; (refine (node_one 6 2 0 0 0 0 none 0 0 w7.drew).mono ?_); rintro e w3 ⟨N3, rfl, hc3, hN3, hN4, hb3⟩; have hx3 := hxd.step hb3; have u0 : w3.cell? ⟨gT, 0, none⟩ = some (.int .i64 x0) := hx3.te.cell 0; have fu0 : w3.frozen? ⟨gT, 0, none⟩ = false := hx3.te.frozen 0; have u1 : w3.cell? ⟨gT, 1, none⟩ = some (.int .u64 x1) := hx3.te.cell 1; have fu1 : w3.frozen? ⟨gT, 1, none⟩ = false := hx3.te.frozen 1; have u2 : w3.cell? ⟨gT, 2, none⟩ = some (.int .u64 x2) := hx3.te.cell 2; have fu2 : w3.frozen? ⟨gT, 2, none⟩ = false := hx3.te.frozen 2; have u3 : w3.cell? ⟨gT, 3, none⟩ = some (.int .u64 x3) := hx3.te.cell 3; have fu3 : w3.frozen? ⟨gT, 3, none⟩ = false := hx3.te.frozen 3; have u4 : w3.cell? ⟨gT, 4, none⟩ = some (.int .u64 x4) := hx3.te.cell 4; have fu4 : w3.frozen? ⟨gT, 4, none⟩ = false := hx3.te.frozen 4; have u5 : w3.cell? ⟨gT, 5, none⟩ = some (.slice xA xl xc) := hx3.te.cell 5; have fu5 : w3.frozen? ⟨gT, 5, none⟩ = false := hx3.te.frozen 5)
              | (go_simp; go_at_call 34; (refine (node_two 4 x0 x1 x2 x3 x4 6 0 0 0 0 xA (some ⟨N3, 0, none⟩) xl xc 1 1 w3).mono ?_); rintro e w4 ⟨N, rfl, hc4, hN1, hN2, hb4⟩; have hx4 := hx3.step hb4; have q0 : w4.cell? ⟨gT, 0, none⟩ = some (.int .i64 x0) := hx4.te.cell 0; have fq0 : w4.frozen? ⟨gT, 0, none⟩ = false := hx4.te.frozen 0; have q1 : w4.cell? ⟨gT, 1, none⟩ = some (.int .u64 x1) := hx4.te.cell 1; have fq1 : w4.frozen? ⟨gT, 1, none⟩ = false := hx4.te.frozen 1; have q2 : w4.cell? ⟨gT, 2, none⟩ = some (.int .u64 x2) := hx4.te.cell 2; have fq2 : w4.frozen? ⟨gT, 2, none⟩ = false := hx4.te.frozen 2; have q3 : w4.cell? ⟨gT, 3, none⟩ = some (.int .u64 x3) := hx4.te.cell 3; have fq3 : w4.frozen? ⟨gT, 3, none⟩ = false := hx4.te.frozen 3; have q4 : w4.cell? ⟨gT, 4, none⟩ = some (.int .u64 x4) := hx4.te.cell 4; have fq4 : w4.frozen? ⟨gT, 4, none⟩ = false := hx4.te.frozen 4; have q5 : w4.cell? ⟨gT, 5, none⟩ = some (.slice xA xl xc) := hx4.te.cell 5; have fq5 : w4.frozen? ⟨gT, 5, none⟩ = false := hx4.te.frozen 5))
            all_goals
              have HXp := Lib.hid (hx4.put rfl 4 0 0 0 0 (some ⟨N, 0, none⟩) 2 2)
              have hgT2 : gT < w7.heap.size := Blk.lt hxd.te
              have hgl2 := HX7.out.gl
              have hz3 : w7.heap.size ≤ w3.heap.size := hb3.size
              have hN3' : w7.heap.size ≤ N3 := hN3
              have hz4 : w3.heap.size ≤ w4.heap.size := hb4.size
              have hz5 := size_put6 w4 gT 4 0 0 0 0 (some ⟨N, 0, none⟩) 2 2
              have HTp : Hid (∃ n, RxT ((((((w4.setCell ⟨gT, 0, none⟩ (.int .i64 4)).setCell ⟨gT, 1, none⟩ (.int .u64 0)).setCell ⟨gT, 2, none⟩ (.int .u64 0)).setCell ⟨gT, 3, none⟩ (.int .u64 0)).setCell ⟨gT, 4, none⟩ (.int .u64 0)).setCell ⟨gT, 5, none⟩ (.slice (some ⟨N, 0, none⟩) 2 2)) (InT w gT ((((((w4.setCell ⟨gT, 0, none⟩ (.int .i64 4)).setCell ⟨gT, 1, none⟩ (.int .u64 0)).setCell ⟨gT, 2, none⟩ (.int .u64 0)).setCell ⟨gT, 3, none⟩ (.int .u64 0)).setCell ⟨gT, 4, none⟩ (.int .u64 0)).setCell ⟨gT, 5, none⟩ (.slice (some ⟨N, 0, none⟩) 2 2))) n (tTwo 4 t (tStar (tAgain t))) (six 4 0 0 0 0 (some ⟨N, 0, none⟩) 2 2)) := Lib.hid (by
                obtain ⟨na, ha⟩ := HTad.out
                have a3 : RxT w3 (InT w gT w3) na (tOne 2) (six 2 0 0 0 0 none 0 0) := (ha.below hb3 fun b hb => hb.2.1).weak fun b hb => ⟨hb.1, by have := hb.2.1; omega, hb.2.2⟩
                have s3 := RxT.star a3 (show InT w gT w3 N3 from ⟨by omega, hN4, by omega⟩) hc3
                have b0 : RxT w3 (InT w gT w7) n t (six x0 x1 x2 x3 x4 xA xl xc) := HTtd.out.below hb3 fun b hb => hb.2.1
                have b1 : RxT w4 (InT w gT w4) n t (six x0 x1 x2 x3 x4 xA xl xc) := (b0.below hb4 fun b hb => by have := hb.2.1; omega).weak fun b hb => ⟨hb.1, by have := hb.2.1; omega, hb.2.2⟩
                have b2 : RxT w4 (InT w gT w4) (na + 1) (tStar (tOne 2)) (six 6 0 0 0 0 (some ⟨N3, 0, none⟩) 1 1) := (s3.below hb4 fun b hb => hb.2.1).weak fun b hb => ⟨hb.1, by have := hb.2.1; omega, hb.2.2⟩
                rw [HAG.out]
                have c := RxT.two (b1.up (Nat.le_max_left n (na + 1))) (b2.up (Nat.le_max_right n (na + 1))) rfl (show InT w gT w4 N from ⟨by omega, hN2, by omega⟩) hc4 4 (by decide) (by decide)
                exact ⟨_, (c.put6 (fun k => k.2.2 rfl) 4 0 0 0 0 (some ⟨N, 0, none⟩) 2 2).weak fun b hb => ⟨hb.1, by rw [hz5]; exact hb.2.1, hb.2.2⟩⟩)
              clear hx3 hx4 hb3 hc3 hc4 hb4 hxd hbd hz5
              go_upto_region 13 with fail
              obtain ⟨Wp, hWp⟩ : ∃ Wp, ((((((w4.setCell ⟨gT, 0, none⟩ (.int .i64 4)).setCell ⟨gT, 1, none⟩ (.int .u64 0)).setCell ⟨gT, 2, none⟩ (.int .u64 0)).setCell ⟨gT, 3, none⟩ (.int .u64 0)).setCell ⟨gT, 4, none⟩ (.int .u64 0)).setCell ⟨gT, 5, none⟩ (.slice (some ⟨N, 0, none⟩) 2 2)) = Wp := ⟨_, rfl⟩
              rw [hWp] at HXp HTp ⊢
              clear hWp
              obtain ⟨rr, hrr⟩ := HXp.out.rd.at0 hys1
              have c1 := hrr.cell 1
              have cf1 := hrr.froz 1
              have hwp : IntKind.i64.wrap ((y.p : Int) + 1) = (y.p : Int) + 1 := IntWalk.i64_in _ (by omega)
              have HX5 := Lib.hid (HXp.out.up hys1 (by omega))
              have HT5 : Hid (y.up.e = 0 → ∃ n, RxT (Wp.setCell ⟨g, 1, none⟩ (.int .i64 ((y.p : Int) + 1))) (InT w gT (Wp.setCell ⟨g, 1, none⟩ (.int .i64 ((y.p : Int) + 1)))) n (tTwo 4 t (tStar (tAgain t))) (six 4 0 0 0 0 (some ⟨N, 0, none⟩) 2 2)) := Lib.hid fun _ => by
                obtain ⟨n, hn⟩ := HTp.out
                have hgl := HXp.out.lt
                exact ⟨n, (hn.store (p := ⟨g, 1, none⟩) (fun k => by have := k.1; dsimp only at this; omega) _).weak fun b hb => ⟨hb.1, by simpa [World.setCell] using hb.2.1, hb.2.2⟩⟩
              clear hrr HXp HTp
              go_wp2_with fail
              go_roundg m
              case measure => rw [HG.out]; omega
              case rel => exact ⟨m, (tTwo 4 t (tStar (tAgain t))), y.up, 4, 0, 0, 0, 0, some ⟨N, 0, none⟩, 2, 2, rfl, hup.hi, fun hy => by omega, HF2, HX5, HT5⟩
        · have HFe : Hid (F = (t, y)) := Lib.hid (HFq.out.trans (lpP_stop m h42 h63 h43))
          have e42 : ((pk s y).toList == [42]) = false := by rw [pk_is]; exact beq_eq_false_iff_ne.2 (show ¬ nx s y = 42 from h42)
          have e63 : ((pk s y).toList == [63]) = false := by rw [pk_is]; exact beq_eq_false_iff_ne.2 (show ¬ nx s y = 63 from h63)
          have e43 : ((pk s y).toList == [43]) = false := by rw [pk_is]; exact beq_eq_false_iff_ne.2 (show ¬ nx s y = 43 from h43)
          clear h42 h63 h43 hq HFq
          go_wp2_with fail
          refine CP.out.mono ?_
          rintro e w2 ⟨rfl, qq, hqq⟩
          have hbq : Below wr.heap.size wr w2 := by rw [hqq]; exact below_drewN (Below.refl _ _) qq
          have HX2 := Lib.hid (HX.out.step hbq)
          have HT2 : Hid (y.e = 0 → ∃ n, RxT w2 (InT w gT w2) n t (six x0 x1 x2 x3 x4 xA xl xc)) := Lib.hid fun hy => by
            obtain ⟨n, hn⟩ := HT.out hy
            exact ⟨n, (hn.below hbq fun b hb => hb.2.1).weak fun b hb => ⟨hb.1, Nat.lt_of_lt_of_le hb.2.1 hbq.size, hb.2.2⟩⟩
          clear hqq hbq CP HX HT
          obtain ⟨w9, rfl⟩ : ∃ w9 : World, w9 = w2 := ⟨_, rfl⟩
          have HX9 := HX2
          have HT9 := HT2
          clear HX2 HT2
          have s0 : w9.cell? ⟨gT, 0, none⟩ = some (.int .i64 x0) := HX9.out.te.cell 0
          have s1 : w9.cell? ⟨gT, 1, none⟩ = some (.int .u64 x1) := HX9.out.te.cell 1
          have s2 : w9.cell? ⟨gT, 2, none⟩ = some (.int .u64 x2) := HX9.out.te.cell 2
          have s3 : w9.cell? ⟨gT, 3, none⟩ = some (.int .u64 x3) := HX9.out.te.cell 3
          have s4 : w9.cell? ⟨gT, 4, none⟩ = some (.int .u64 x4) := HX9.out.te.cell 4
          have s5 : w9.cell? ⟨gT, 5, none⟩ = some (.slice xA xl xc) := HX9.out.te.cell 5
          have r0 : w9.cell? ⟨w.heap.size, 0, none⟩ = some (.int .i64 0) := HX9.out.re.cell 0
          have fr0 : w9.frozen? ⟨w.heap.size, 0, none⟩ = false := HX9.out.re.frozen 0
          have r1 : w9.cell? ⟨w.heap.size, 1, none⟩ = some (.int .u64 0) := HX9.out.re.cell 1
          have fr1 : w9.frozen? ⟨w.heap.size, 1, none⟩ = false := HX9.out.re.frozen 1
          have r2 : w9.cell? ⟨w.heap.size, 2, none⟩ = some (.int .u64 0) := HX9.out.re.cell 2
          have fr2 : w9.frozen? ⟨w.heap.size, 2, none⟩ = false := HX9.out.re.frozen 2
          have r3 : w9.cell? ⟨w.heap.size, 3, none⟩ = some (.int .u64 0) := HX9.out.re.cell 3
          have fr3 : w9.frozen? ⟨w.heap.size, 3, none⟩ = false := HX9.out.re.frozen 3
          have r4 : w9.cell? ⟨w.heap.size, 4, none⟩ = some (.int .u64 0) := HX9.out.re.cell 4
          have fr4 : w9.frozen? ⟨w.heap.size, 4, none⟩ = false := HX9.out.re.frozen 4
          have r5 : w9.cell? ⟨w.heap.size, 5, none⟩ = some (.slice none 0 0) := HX9.out.re.cell 5
          have fr5 : w9.frozen? ⟨w.heap.size, 5, none⟩ = false := HX9.out.re.frozen 5
          have HZ := Lib.hid (six_put (cs := [.int .i64 0, .int .u64 0, .int .u64 0, .int .u64 0, .int .u64 0, .slice none 0 0]) HX9.out.re rfl x0 x1 x2 x3 x4 xA xl xc)
          have hne := HX9.out.lt
          have HZK := Lib.hid (HX9.out.ko.put6 (Nat.le_refl _) x0 x1 x2 x3 x4 xA xl xc)
          have HZR := Lib.hid (Tq.far6 HX9.out.rd (by omega : w.heap.size ≠ g) x0 x1 x2 x3 x4 xA xl xc)
          have HZS := Lib.hid (size_put6 w9 w.heap.size x0 x1 x2 x3 x4 xA xl xc)
          have HZT : Hid (y.e = 0 → ∃ n, RxT ((((((w9.setCell ⟨w.heap.size, 0, none⟩ (.int .i64 x0)).setCell ⟨w.heap.size, 1, none⟩ (.int .u64 x1)).setCell ⟨w.heap.size, 2, none⟩ (.int .u64 x2)).setCell ⟨w.heap.size, 3, none⟩ (.int .u64 x3)).setCell ⟨w.heap.size, 4, none⟩ (.int .u64 x4)).setCell ⟨w.heap.size, 5, none⟩ (.slice xA xl xc)) (fun b => w.heap.size ≤ b ∧ b < w9.heap.size) n t (six x0 x1 x2 x3 x4 xA xl xc)) := Lib.hid fun hy => by
            obtain ⟨n, hn⟩ := HT9.out hy
            exact ⟨n, (hn.put6 (fun k => absurd k.1 (Nat.lt_irrefl _)) x0 x1 x2 x3 x4 xA xl xc).weak fun b hb => ⟨Nat.le_of_lt hb.1, hb.2.1⟩⟩
          clear HX9
          go_wp2_with fail
          obtain ⟨wz, hwz⟩ : ∃ wz, wz = ((((((w9.setCell ⟨w.heap.size, 0, none⟩ (.int .i64 x0)).setCell ⟨w.heap.size, 1, none⟩ (.int .u64 x1)).setCell ⟨w.heap.size, 2, none⟩ (.int .u64 x2)).setCell ⟨w.heap.size, 3, none⟩ (.int .u64 x3)).setCell ⟨w.heap.size, 4, none⟩ (.int .u64 x4)).setCell ⟨w.heap.size, 5, none⟩ (.slice xA xl xc)) := ⟨_, rfl⟩
          have hz := HZ.out
          have hzk := HZK.out
          have hzr := HZR.out
          have hzs := HZS.out
          have hzt := HZT.out
          rw [← hwz] at hz hzk hzr hzs hzt ⊢
          have z0 : wz.cell? ⟨w.heap.size, 0, none⟩ = some (.int .i64 x0) := hz.cell 0
          have z1 : wz.cell? ⟨w.heap.size, 1, none⟩ = some (.int .u64 x1) := hz.cell 1
          have z2 : wz.cell? ⟨w.heap.size, 2, none⟩ = some (.int .u64 x2) := hz.cell 2
          have z3 : wz.cell? ⟨w.heap.size, 3, none⟩ = some (.int .u64 x3) := hz.cell 3
          have z4 : wz.cell? ⟨w.heap.size, 4, none⟩ = some (.int .u64 x4) := hz.cell 4
          have z5 : wz.cell? ⟨w.heap.size, 5, none⟩ = some (.slice xA xl xc) := hz.cell 5
          refine bodyPost_ret (v := .agg #[.int .i64 x0, .int .u64 x1, .int .u64 x2, .int .u64 x3, .int .u64 x4, .slice xA xl xc]) (by simp [results, Try.results49, go_sem, z0, z1, z2, z3, z4, z5]) rfl ⟨x0, x1, x2, x3, x4, xA, xl, xc, rfl, by rw [HFe.out]; exact hzr, hzk, fun hy => by
            rw [HFe.out] at hy ⊢
            obtain ⟨n, hn⟩ := hzt hy
            exact ⟨n, hn.weak fun b hb => ⟨hb.1, by omega⟩⟩⟩
end Go.Proofs.Ytkdcgkdbieeijaa
