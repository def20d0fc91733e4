/- Walk: wickref.Framed. -/
import Derived.Test.YtkcncgdgicffhaaDoorGt
import Derived.Deep.RegionLaw
import Derived.Deep.RegionHeld3
import Derived.Deep.DeepHandedRow
namespace Go.Proofs.YtkcncgdgicffhaaDoor
open Go.RowKit
set_option linter.unusedVariables false
set_option linter.unusedSimpArgs false

theorem fr_one (x : ByteArray) : frR [] [x] = if chunkB x = true then (3, 0, 0) else (0, 0, 4) := rfl
theorem fr_num (a0 : ByteArray) (a : List ByteArray) : frR (a0 :: a) [] = if numE 10 9 a0 = 0 ∧ allS (a0 :: a) a0 = true then (2, numN 10 9 a0, 0) else (0, 0, 4) := rfl
/-- the error as it is by now -/
def errK (E : Int) (p : Bool) : Int := if E = 0 ∧ p = true then 0 else 4
theorem errK_no (E : Int) : errK E false = 4 := by unfold errK; rw [if_neg (fun h => Bool.false_ne_true h.2)]
theorem allS_snoc {L : List ByteArray} {k : Nat} (h : k < L.length) (a0 : ByteArray) : allS (L.take (k + 1)) a0 = (allS (L.take k) a0 && (L[k].data.toList == a0.data.toList)) := by
  unfold allS; rw [List.take_succ_eq_append_getElem h, List.all_append]; simp
section
variable (m t : ByteArray) (A : Option Addr) (cap : Nat) (fs : List Fd) (w : World)
set_option maxRecDepth 100000 in
set_option maxHeartbeats 8000000 in
theorem framed_any (hf : FdR w w.heap.size A cap fs) (hfl : fs.length ≤ 1048576) :
    Calls Tryd.prog 10 #[.agg #[.string m, .string t, .slice A fs.length cap]] w (FrRes (frR (getL fs clB) (getL fs teB)) w) := by
  have CA : ∀ w', Fz w m t A cap fs w' → Calls Tryd.prog 47 #[.agg #[.string m, .string t, .slice A fs.length cap], .string ⟨#[67, 111, 110, 116, 101, 110, 116, 45, 76, 101, 110, 103, 116, 104]⟩] w' fun e w'' => ∃ v, e = .returned v ∧ OS w'' w.heap.size v (getL fs ⟨#[67, 111, 110, 116, 101, 110, 116, 45, 76, 101, 110, 103, 116, 104]⟩) ∧ Below w'.heap.size w' w'' := fun w' h => (Get_any m t ⟨#[67, 111, 110, 116, 101, 110, 116, 45, 76, 101, 110, 103, 116, 104]⟩ fs A cap w.heap.size w' (by decide) h.fds hfl h.be.size).mono fun e w'' ⟨v, h1, h2, h3⟩ => ⟨v, h1, h2.mono h.be.size, h3⟩
  have CB : ∀ w', Fz w m t A cap fs w' → Calls Tryd.prog 47 #[.agg #[.string m, .string t, .slice A fs.length cap], .string ⟨#[84, 114, 97, 110, 115, 102, 101, 114, 45, 69, 110, 99, 111, 100, 105, 110, 103]⟩] w' fun e w'' => ∃ v, e = .returned v ∧ OS w'' w.heap.size v (getL fs ⟨#[84, 114, 97, 110, 115, 102, 101, 114, 45, 69, 110, 99, 111, 100, 105, 110, 103]⟩) ∧ Below w'.heap.size w' w'' := fun w' h => (Get_any m t ⟨#[84, 114, 97, 110, 115, 102, 101, 114, 45, 69, 110, 99, 111, 100, 105, 110, 103]⟩ fs A cap w.heap.size w' (by decide) h.fds hfl h.be.size).mono fun e w'' ⟨v, h1, h2, h3⟩ => ⟨v, h1, h2.mono h.be.size, h3⟩
  have hza : ∀ x ∈ getL fs clB, x.size ≤ 1048576 := fun x hx => by
    unfold getL at hx
    obtain ⟨f, hf1, rfl⟩ := List.mem_map.1 hx
    exact (hf.2.2.2 f (List.mem_filter.1 hf1).1).2
  have hzb : ∀ x ∈ getL fs teB, x.size ≤ 1048576 := fun x hx => by
    unfold getL at hx
    obtain ⟨f, hf1, rfl⟩ := List.mem_map.1 hx
    exact (hf.2.2.2 f (List.mem_filter.1 hf1).1).2
  rw [cl_up] at CA
  rw [te_up] at CB
  obtain ⟨a, ha⟩ : ∃ a, a = getL fs clB := ⟨_, rfl⟩
  obtain ⟨b, hb⟩ : ∃ b, b = getL fs teB := ⟨_, rfl⟩
  rw [← ha] at CA hza
  rw [← hb] at CB hzb
  unfold FrRes
  rw [← ha, ← hb]
  have hal : a.length ≤ 1048576 := by rw [ha]; exact Nat.le_trans (getL_len _ _) hfl
  have CA := Lib.hid CA
  have CB := Lib.hid CB
  have HZA := Lib.hid hza
  have HZB := Lib.hid hzb
  obtain ⟨W, hW⟩ : ∃ W, (w.alloc (.cells #[.string m, .string t, .slice A fs.length cap] 24)).alloc (.cells #[.int .i64 0, .int .i64 0] 27) = W := ⟨_, rfl⟩
  have hZ : Fz w m t A cap fs W := by rw [← hW]; exact Fz.start hf
  have hZd := hZ.drew
  have HZ := Lib.hid hZ
  obtain ⟨r0, r1, r2⟩ := hZ.facts
  obtain ⟨p0, p1, p2⟩ := hZd.facts
  obtain ⟨R, hR⟩ : ∃ R, R = frR a b := ⟨_, rfl⟩
  rw [← hR]
  have HR := Lib.hid hR
  clear ha hb hf hza hzb hZ hR
  go_enter Tryd.func10, Tryd.ntmps10
  go_upto_region 1 with fail
  go_cut [4, 5] from 9 to 12 (fun u v wx => ∃ A1 c1 A2 c2, u = .slice A1 a.length c1 ∧ v = .slice A2 b.length c2 ∧ OS wx w.heap.size (.slice A1 a.length c1) a ∧ OS wx w.heap.size (.slice A2 b.length c2) b ∧ Hid (Fz w m t A cap fs wx))
  case first =>
    go_region_law (first
      | (go_simp; go_at_call 47; (with_reducible refine (CA.out _ (by assumption)).mono ?_); rintro e w' ⟨v', rfl, ho', hb'⟩; have hs' := Fz.step (by assumption) hb'; obtain ⟨q0, q1, q2⟩ := hs'.facts; (try have hk' := OS.kept (by assumption) hb'); obtain ⟨A', c', rfl⟩ := ho'.form; clear hb')
      | (go_simp; go_at_call 47; (with_reducible refine (CB.out _ (by assumption)).mono ?_); rintro e w' ⟨v', rfl, ho', hb'⟩; have hs' := Fz.step (by assumption) hb'; obtain ⟨q0, q1, q2⟩ := hs'.facts; (try have hk' := OS.kept (by assumption) hb'); obtain ⟨A', c', rfl⟩ := ho'.form; clear hb'))
    all_goals go_wp2_with fail
    all_goals go_meet
    all_goals exact ⟨_, _, _, _, rfl, rfl, by assumption, by assumption, Lib.hid (by assumption)⟩
  case rest =>
    obtain ⟨A1, c1, A2, c2, rfl, rfl, hoa, hob, HZc⟩ := hcut
    clear r0 r1 r2 p0 p1 p2 hZd hW HZ
    obtain ⟨s0, s1, s2, s3⟩ := HZc.out.rfacts
    cases a with
    | nil =>
      cases b with
      | nil =>
        have HF : Hid (R = (1, 0, 0)) := Lib.hid HR.out
        obtain ⟨wz, hwz, hbz, z0, z1⟩ := HZc.out.put (.int .i64 1) (.int .i64 0)
        go_wp2_with fail
        rw [← hwz]
        exact bodyPost_ret (v := .tuple #[.agg #[.int .i64 1, .int .i64 0], .int .i64 0]) (by simp [results, Tryd.results10, go_sem, z0, z1]) rfl ⟨by rw [HF.out], hbz⟩
      | cons x b =>
        obtain ⟨g, eA, hg1, hg2, hg3, hcell⟩ := hob.at_ (by simp)
        subst eA
        have x0 : wc.cell? ⟨g, 0, none⟩ = some (.string x) := hcell 0 (by simp)
        have hxz := HZB.out x (by simp)
        have i2 : (0 : Int) < (b.length : Int) + 1 := by omega
        have i3 : ((b.length : Int) + 1 == 0) = false := beq_eq_false_iff_ne.2 (by omega)
        cases b with
        | cons y b =>
          have i1 : (((y :: b).length : Int) + 1 == 1) = false := beq_eq_false_iff_ne.2 (by simp; omega)
          have i1' : ((b.length : Int) + 1 + 1 == 1) = false := beq_eq_false_iff_ne.2 (by omega)
          have i2' : (0 : Int) < (b.length : Int) + 1 + 1 := by omega
          have i3' : ((b.length : Int) + 1 + 1 == 0) = false := beq_eq_false_iff_ne.2 (by omega)
          have HF : Hid (R = (0, 0, 4)) := Lib.hid HR.out
          clear hoa hob hcell x0
          obtain ⟨wz, hwz, hbz, z0, z1⟩ := HZc.out.put (.int .i64 0) (.int .i64 0)
          go_wp2_with fail
          rw [← hwz]
          exact bodyPost_ret (v := .tuple #[.agg #[.int .i64 0, .int .i64 0], .int .i64 4]) (by simp [results, Tryd.results10, go_sem, z0, z1]) rfl ⟨by rw [HF.out], hbz⟩
        | nil =>
          have CL := fun w' => Low_any x w' (by omega)
          obtain ⟨Z, hZ⟩ : ∃ Z, Z = x.data.toList.map lowB := ⟨_, rfl⟩
          rw [← hZ] at CL
          have CL := Lib.hid CL
          have hch : chunkB x = (Z == chB.data.toList) := by unfold chunkB; rw [hZ]
          have HCH := Lib.hid hch
          clear hZ hch hoa hob hcell
          go_wp2_with fail
          refine (CL.out _).mono ?_
          rintro e w3 ⟨rfl, q, hw3⟩
          have HZ3 : Hid (Fz w m t A cap fs w3) := Lib.hid (by rw [hw3]; exact HZc.out.step (below_drewN (Below.refl _ _) q))
          clear hw3 s0 s1 s2 s3
          obtain ⟨s0, s1, s2, s3⟩ := HZ3.out.rfacts
          cases hq : (Z == chB.data.toList) with
          | true =>
            have q1 : (Z == [99, 104, 117, 110, 107, 101, 100]) = true := hq
            have HF : Hid (R = (3, 0, 0)) := Lib.hid (by rw [HR.out, fr_one, HCH.out, hq]; rfl)
            clear hq
            obtain ⟨wz, hwz, hbz, z0, z1⟩ := HZ3.out.put (.int .i64 3) (.int .i64 0)
            go_wp2_with fail
            rw [← hwz]
            exact bodyPost_ret (v := .tuple #[.agg #[.int .i64 3, .int .i64 0], .int .i64 0]) (by simp [results, Tryd.results10, go_sem, z0, z1]) rfl ⟨by rw [HF.out], hbz⟩
          | false =>
            have q1 : (Z == [99, 104, 117, 110, 107, 101, 100]) = false := hq
            have HF : Hid (R = (0, 0, 4)) := Lib.hid (by rw [HR.out, fr_one, HCH.out, hq]; rfl)
            clear hq
            obtain ⟨wz, hwz, hbz, z0, z1⟩ := HZ3.out.put (.int .i64 0) (.int .i64 0)
            go_wp2_with fail
            rw [← hwz]
            exact bodyPost_ret (v := .tuple #[.agg #[.int .i64 0, .int .i64 0], .int .i64 4]) (by simp [results, Tryd.results10, go_sem, z0, z1]) rfl ⟨by rw [HF.out], hbz⟩
    | cons a0 a =>
      obtain ⟨g, eA, hg1, hg2, hg3, hcell⟩ := hoa.at_ (by simp)
      subst eA
      have x0 : wc.cell? ⟨g, 0, none⟩ = some (.string a0) := hcell 0 (by simp)
      have haz := HZA.out a0 (by simp)
      have i2 : (0 : Int) < (a.length : Int) + 1 := by omega
      have i3 : ((a.length : Int) + 1 == 0) = false := beq_eq_false_iff_ne.2 (by omega)
      cases b with
      | cons x b =>
        have j2 : (0 : Int) < (b.length : Int) + 1 := by omega
        have j3 : ((b.length : Int) + 1 == 0) = false := beq_eq_false_iff_ne.2 (by omega)
        have HF : Hid (R = (0, 0, 4)) := Lib.hid HR.out
        clear hoa hob hcell x0
        obtain ⟨wz, hwz, hbz, z0, z1⟩ := HZc.out.put (.int .i64 0) (.int .i64 0)
        go_wp2_with fail
        rw [← hwz]
        exact bodyPost_ret (v := .tuple #[.agg #[.int .i64 0, .int .i64 0], .int .i64 4]) (by simp [results, Tryd.results10, go_sem, z0, z1]) rfl ⟨by rw [HF.out], hbz⟩
      | nil =>
        have CN := Lib.hid fun w' => Number_any a0 10 9 w' (by unfold maxLen; omega) (by omega) (by omega) (by omega) (by omega)
        obtain ⟨n, hn⟩ : ∃ n, n = numN 10 9 a0 := ⟨_, rfl⟩
        obtain ⟨E, hE⟩ : ∃ E, E = numE 10 9 a0 := ⟨_, rfl⟩
        rw [← hn, ← hE] at CN
        have HN := Lib.hid hn
        have HE := Lib.hid hE
        have hE2 : E = 0 ∨ E = 4 := by rw [hE]; rcases numE_cases a0 with h | h <;> omega
        have HC := Lib.hid hcell
        have hll : (a0 :: a).length ≤ 1048576 := hal
        clear hn hE hoa hob hcell
        go_wp2_with fail
        refine (CN.out _).mono ?_
        rintro e w3 ⟨rfl, rfl⟩
        go_wp2_with fail
        obtain ⟨L, hL⟩ : ∃ L, L = a0 :: a := ⟨_, rfl⟩
        have hlen : L.length = a.length + 1 := by rw [hL]; rfl
        rw [← hL] at HC
        have HLL := Lib.hid hL
        have hL1 : L.length ≤ 1048576 := by rw [hL]; exact hal
        have hgl : g < wc.heap.size := hg2
        clear hL hal hll
        go_loopw [7, 8] (fun ev iv wr => ∃ (k : Nat) (v : Int), iv = .int .i64 k ∧ k ≤ L.length ∧ ev = .int .i64 v ∧ Hid (v = errK E (allS (L.take k) a0)) ∧ ∃ q, wr = wc.drewN q) (fun _ iv _ => L.length - (intOf iv).toNat)
        case atStart => exact ⟨0, E, rfl, Nat.zero_le _, rfl, Lib.hid (by unfold errK; rw [List.take_zero, show allS [] a0 = true from rfl]; rcases hE2 with h | h <;> rw [h] <;> rfl), 0, rfl⟩
        case round =>
          obtain ⟨k, v, rfl, hk, rfl, HV, q, hq⟩ := hrel
          have hBq : Below wc.heap.size wc wr := by rw [hq]; exact below_drewN (Below.refl _ _) q
          have HZ4 := Lib.hid (HZc.out.step hBq)
          by_cases hlt : k < L.length
          · have y0 : wr.cell? ⟨g, 0, none⟩ = some (.string a0) := (hBq.cell (p := ⟨g, 0, none⟩) hgl).trans x0
            have yk : wr.cell? ⟨g, k, none⟩ = some (.string L[k]) := (hBq.cell (p := ⟨g, k, none⟩) hgl).trans (HC.out k hlt)
            have i5 : (k : Int) < (a.length : Int) + 1 := by omega
            have hsn := allS_snoc hlt a0
            obtain ⟨y, hy⟩ : ∃ y, y = L[k] := ⟨_, rfl⟩
            rw [← hy] at yk hsn
            have HSN := Lib.hid hsn
            have HQ := Lib.hid hq
            clear hq hBq hsn hy s0 s1 s2 s3 x0
            cases hc : (y.data.toList == a0.data.toList) with
            | true =>
              have q1 : (y.toList == a0.toList) = true := by rw [Lib.toList_data, Lib.toList_data]; exact hc
              have q2 : (y.toList != a0.toList) = false := by rw [bne, q1]; rfl
              have HV2 : Hid (v = errK E (allS (L.take (k + 1)) a0)) := Lib.hid (by rw [HV.out, HSN.out, hc, Bool.and_true])
              clear hc
              go_wp2_with fail
              go_quiet (fail)
              go_wp2_with fail
              go_roundw
              case rel => exact ⟨k + 1, v, by go_num, by omega, rfl, HV2, _, by rw [HQ.out]; exact World.drewN_drewN _ _ _⟩
              case measure => simp [intOf]; omega
            | false =>
              have q1 : (y.toList == a0.toList) = false := by rw [Lib.toList_data, Lib.toList_data]; exact hc
              have q2 : (y.toList != a0.toList) = true := by rw [bne, q1]; rfl
              have HV2 : Hid ((4 : Int) = errK E (allS (L.take (k + 1)) a0)) := Lib.hid (by rw [HSN.out, hc, Bool.and_false, errK_no])
              clear hc
              go_wp2_with fail
              go_quiet (fail)
              go_wp2_with fail
              go_roundw
              case rel => exact ⟨k + 1, 4, by go_num, by omega, rfl, HV2, _, by rw [HQ.out]; exact World.drewN_drewN _ _ _⟩
              case measure => simp [intOf]; omega
          · obtain rfl : k = L.length := by omega
            rw [List.take_length] at HV
            clear s0 s1 s2 s3 x0
            obtain ⟨s0, s1, s2, s3⟩ := HZ4.out.rfacts
            by_cases hok : E = 0 ∧ allS L a0 = true
            · have hv : v = 0 := by rw [HV.out]; unfold errK; rw [if_pos hok]
              have HF : Hid (R = (2, n, 0)) := Lib.hid (by rw [HR.out, fr_num, ← HLL.out, ← HE.out, if_pos hok, HN.out])
              subst hv
              clear hq hBq hok
              obtain ⟨wz, hwz, hbz, z0, z1⟩ := HZ4.out.put (.int .i64 2) (.int .i64 n)
              go_wp2_with fail
              rw [← hwz]
              exact bodyPost_ret (v := .tuple #[.agg #[.int .i64 2, .int .i64 n], .int .i64 0]) (by simp [results, Tryd.results10, go_sem, z0, z1]) rfl ⟨by rw [HF.out], hbz⟩
            · have hv : v = 4 := by rw [HV.out]; unfold errK; rw [if_neg hok]
              have HF : Hid (R = (0, 0, 4)) := Lib.hid (by rw [HR.out, fr_num, ← HLL.out, ← HE.out, if_neg hok])
              subst hv
              clear hq hBq hok
              obtain ⟨wz, hwz, hbz, z0, z1⟩ := HZ4.out.put (.int .i64 0) (.int .i64 0)
              go_wp2_with fail
              rw [← hwz]
              exact bodyPost_ret (v := .tuple #[.agg #[.int .i64 0, .int .i64 0], .int .i64 4]) (by simp [results, Tryd.results10, go_sem, z0, z1]) rfl ⟨by rw [HF.out], hbz⟩
end
end Go.Proofs.YtkcncgdgicffhaaDoor
