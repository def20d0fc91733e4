/- Walk: one chunk that frame's reader takes. -/
import Derived.Test.YtkcncgdgicffhaaDoorGag
import Derived.Test.YtkcncgdgicffhaaDoorGf
import Derived.Lib.AppendStr
import Derived.Deep.RegionLaw
import Derived.Deep.Cut
namespace Go.Proofs.YtkcncgdgicffhaaDoor
open Go.RowKit
set_option linter.unusedVariables false
set_option linter.unusedSimpArgs false

/-- the reader in the block g; u: the cell of what is out, v: what is out by now -/
structure ChS (w0 wr : World) (g : Nat) (s : ByteArray) (a : Nat) (most : Int) (u v : Value) (out : List UInt8) : Prop where
  hb : Blk wr g 92 (chV s a most u)
  hg : w0.heap.size ≤ g
  ho : OB wr (g + 1) v out
  be : Below w0.heap.size w0 wr
section
variable {w0 wr wr' : World} {g : Nat} {s : ByteArray} {a : Nat} {most : Int} {u v : Value} {out : List UInt8}
theorem ChS.lt (h : ChS w0 wr g s a most u v out) : g < wr.heap.size := Blk.lt h.hb
theorem ChS.drewN (h : ChS w0 wr g s a most u v out) (n : Nat) : ChS w0 (wr.drewN n) g s a most u v out := ⟨h.hb, h.hg, h.ho, below_drewN h.be n⟩
theorem ChS.drew (h : ChS w0 wr g s a most u v out) : ChS w0 wr.drew g s a most u v out := h.drewN 1
theorem ChS.put (h : ChS w0 wr g s a most u v out) (x : Value) : ChS w0 (wr.setCell ⟨g, 3, none⟩ x) g s a most x v out :=
  ⟨h.hb.set_ 3 x, h.hg, ownsRow_setCell_below (a := ⟨g, 3, none⟩) h.ho (Nat.lt_succ_self _) x, h.be.setCell (p := ⟨g, 3, none⟩) h.hg x⟩
theorem ChS.go (h : ChS w0 wr g s a most u v out) {b : Int} {b' : Nat} (hb : b = b') : ChS w0 (wr.setCell ⟨g, 1, none⟩ (.int .i64 b)) g s b' most u v out :=
  ⟨blk_at h.hb hb, h.hg, ownsRow_setCell_below (a := ⟨g, 1, none⟩) h.ho (Nat.lt_succ_self _) _, h.be.setCell (p := ⟨g, 1, none⟩) h.hg _⟩
theorem ChS.off (h : ChS w0 wr g s a most u v out) (k : KeptOff wr wr' g) {b : Nat} (hb : Blk wr' g 92 (chV s b most u)) : ChS w0 wr' g s b most u v out :=
  ⟨hb, h.hg, World.ownsRow.kept (row := some g) h.ho k (.inr fun e => by
    have := (World.ownsRow.lt h.ho g e).1
    omega), h.be.trans (k.below h.be.size h.hg)⟩
theorem ChS.facts (h : ChS w0 wr g s a most u v out) : wr.cell? ⟨g, 0, none⟩ = some (.string s) ∧ wr.cell? ⟨g, 1, none⟩ = some (.int .i64 a) ∧ wr.cell? ⟨g, 2, none⟩ = some (.int .i64 most) ∧ wr.cell? ⟨g, 3, none⟩ = some u ∧ wr.frozen? ⟨g, 1, none⟩ = false ∧ wr.frozen? ⟨g, 3, none⟩ = false :=
  ⟨h.hb.cell 0, h.hb.cell 1, h.hb.cell 2, h.hb.cell 3, h.hb.frozen 1, h.hb.frozen 3⟩
/-- append of a part of the text -/
theorem step_ch {ops : Array Oper} {o : Oper} {a' : Act} {K : Act → World → Prop} {Q : Exit → Act → World → Prop} {E : Prop} (hgd : o.guard = none) (p q : Operand)
    (hop : o.op = .call { callee := .builtin .append, args := #[p, q], argTypes := #[90, 9] })
    (hH : ChS w0 wr g s a most u v out) (hs : a'.eval p = v) (t : ByteArray) (hx : a'.eval q = .string t) (N : Nat) (hN : t.size = N) (hlen : out.length + N ≤ 1000000000)
    (hK : ∀ A' c' w', ChS w0 w' g s a most u (.slice A' (out.length + N) c') (out ++ t.data.toList) → K (a'.put o.dst (.slice A' (out.length + N) c')) w') :
    if Region.wanted o (yielded ops a'.tmps) = true then Oper.wp Tryd.prog o a' wr K Q else E := by
  have hw : Region.wanted o (yielded ops a'.tmps) = true := by simp [Region.wanted, hgd]
  subst hN
  rw [if_pos hw]
  obtain ⟨i0, hi, hz0, hz1, hz2⟩ := info_parts infoByte
  have hB : g + 1 ≤ wr.heap.size := hH.lt
  obtain ⟨v', w', hr, h2, h3, h4⟩ := Lib.run_append_own_string (P := Tryd.prog) wr (g + 1) 90 9 o.type 5 i0 Tryd.underlying90 Tryd.underlying9 hi hz0 hz1 hz2 v out.length (out.map bv) hH.ho t (by unfold maxLen; omega) (by omega) hB
  unfold Oper.wp execOp
  simp only [hop, resolve, invoke, builtin, Sem.run_bind, Sem.run_pure, Result.andThen_ok, List.map_toArray, List.map_cons, List.map_nil, hs, hx, hr]
  have h5 : OB w' (g + 1) v' (out ++ t.data.toList) := by
    unfold OB
    rw [List.length_append, List.map_append, lst_len]
    exact h2
  have hbl : Below (g + 1) wr w' := (Below.refl _ _).grown h3 hB fun k hk => (World.ownsRow.lt hH.ho k hk).1
  obtain ⟨A', c', rfl⟩ := h5.form
  have hlz : (out ++ t.data.toList).length = out.length + t.size := by rw [List.length_append, lst_len]
  rw [hlz] at h5 ⊢
  exact hK A' c' w' ⟨hH.hb.below hbl (Nat.lt_succ_self _), hH.hg, h5, hH.be.trans (hbl.mono (Nat.le_trans hH.hg (Nat.le_succ _)))⟩

set_option maxRecDepth 100000 in
set_option maxHeartbeats 4000000 in
theorem chunk_any (h : ChS w0 wr g s a most v v out) (ha : a ≤ s.size) (hs : s.size ≤ 1048576) (hm : 0 ≤ most ∧ most ≤ 9223372036854775807) (ho1 : out.length ≤ 1048576) (ho2 : (out.length : Int) ≤ most) :
    Calls Tryd.prog 50 #[.pointer (some ⟨g, 0, none⟩)] wr fun x w' => ∃ (e : Int) (n b : Nat) (N : Int), stepC s.data.toList most a out.length = (e, n, b) ∧ x = .returned (.tuple #[.int .i64 N, .int .i64 e]) ∧
      (e = 0 → N = n ∧ ∃ v', ChS w0 w' g s b most v' v' (out ++ (s.data.toList.drop (b - 2 - n)).take n)) ∧ Below w0.heap.size w0 w' := by
  have HS := Lib.hid h
  have CS := Lib.hid (size_rd s a most v g wr h.hb ha hs)
  obtain ⟨m, rfl⟩ := Int.eq_ofNat_of_zero_le hm.1
  have hm1 : (m : Int) ≤ 9223372036854775807 := hm.2
  have hmo : out.length ≤ m := by omega
  clear h hm ho2
  go_enter Tryd.func50, Tryd.ntmps50
  go_wp2_with fail
  refine CS.out.mono ?_
  rintro e w1 ⟨N, E, rfl, hP, ⟨a1, ha1, hE, hb1⟩, hk1⟩
  clear CS
  have hS1 := HS.out.off hk1 hb1
  clear hk1 hb1 HS
  by_cases e0 : E = 0
  · subst e0
    have hP2 : 0 < runN (s.data.toList.drop a) ∧ a + runN (s.data.toList.drop a) ≤ s.size ∧ N = numv 16 ((s.data.toList.drop a).take (runN (s.data.toList.drop a))) ∧ nlE (s.data.toList.drop (a + runN (s.data.toList.drop a))) = 0 := by
      rcases hP with ⟨_, _, h3⟩ | ⟨h1, h2, h3, h4⟩
      · split at h3 <;> omega
      · exact ⟨h1, h2, h3, h4.symm⟩
    obtain ⟨hp1, hp2, hp3, hp4⟩ := hP2
    have hN := chk_n (s.data.toList.drop a)
    rw [← hp3] at hN
    obtain ⟨n, rfl⟩ := Int.eq_ofNat_of_zero_le hN.1
    have ha1' := hE rfl
    obtain ⟨k, hk⟩ : ∃ k, runN (s.data.toList.drop a) = k := ⟨_, rfl⟩
    rw [hk] at hp1 hp2 hp3 hp4 ha1'
    have hn1 : (n : Int) < 268435456 := hN.2
    have HB := Lib.hid fun (h2 : (m : Int).toNat < n + out.length) => step_body (o := out.length) hk hp1 hp4 hp3.symm h2
    have HM := Lib.hid fun (h2 : n + out.length ≤ (m : Int).toNat) (h3 : s.size < a + k + 2 + n) => step_more (o := out.length) hk hp1 hp4 hp3.symm h2 h3
    have HE := Lib.hid fun (h2 : n + out.length ≤ (m : Int).toNat) (h3 : a + k + 2 + n ≤ s.size) (h4 : ¬ nlE (s.data.toList.drop (a + k + 2 + n)) = 0) => step_end (o := out.length) hk hp1 hp4 hp3.symm h2 h3 h4
    have HO := Lib.hid fun (h2 : n + out.length ≤ (m : Int).toNat) (h3 : a + k + 2 + n ≤ s.size) (h4 : nlE (s.data.toList.drop (a + k + 2 + n)) = 0) => step_ok (o := out.length) hk hp1 hp4 hp3.symm h2 h3 h4
    rw [← ha1'] at HM HE HO
    obtain ⟨A, c, rfl⟩ := hS1.ho.form
    have HS1 := Lib.hid hS1
    obtain ⟨k0, k1, k2, k3, f1, f3⟩ := hS1.facts
    have j1 : IntKind.i64.wrap ((m : Int) - (out.length : Int)) = (m : Int) - (out.length : Int) := IntWalk.i64_in _ (by omega)
    have j2 : IntKind.i64.wrap ((s.size : Int) - (a1 : Int)) = (s.size : Int) - (a1 : Int) := IntWalk.i64_in _ (by omega)
    clear hP hE hN hp1 hp2 hp3 hp4 ha1' hk hS1
    by_cases c1 : m < n + out.length
    · have d1 : (m : Int) - (out.length : Int) < (n : Int) := by omega
      have HR := Lib.hid (HB.out (by omega))
      go_wp2_with fail
      go_quiet (fail)
      go_wp2_with fail
      go_ret2
      exact ⟨_, _, _, 0, HR.out, rfl, fun h => absurd h (by decide), below_drewN HS1.out.be _⟩
    · have d1 : decide ((m : Int) - (out.length : Int) < (n : Int)) = false := decide_eq_false (by omega)
      by_cases c2 : s.size < a1 + n
      · have d2 : (s.size : Int) - (a1 : Int) < (n : Int) := by omega
        have HR := Lib.hid (HM.out (by omega) c2)
        go_wp2_with fail
        go_quiet (fail)
        go_wp2_with fail
        go_quiet (fail)
        go_wp2_with fail
        go_ret2
        exact ⟨_, _, _, 0, HR.out, rfl, fun h => absurd h (by decide), ((HS1.out.drewN _).drewN _).be⟩
      · have d2 : decide ((s.size : Int) - (a1 : Int) < (n : Int)) = false := decide_eq_false (by omega)
        have HRE := Lib.hid (HE.out (by omega) (by omega))
        have HRO := Lib.hid (HO.out (by omega) (by omega))
        have CL := Lib.hid fun w' (hb : Blk w' g 92 (chV s (a1 + n) (m : Int) (.slice A out.length c))) => hb
        go_wp2_with fail
        go_quiet (fail)
        obtain ⟨w2, hw2⟩ : ∃ w2, w2 = w1.drewN nq := ⟨_, rfl⟩
        have hS2 := HS1.out.drewN nq
        rw [← hw2] at hS2 ⊢
        clear k0 k1 k2 k3 f1 f3 hw2 HS1 HB HM HE HO CL
        obtain ⟨k0, k1, k2, k3, f1, f3⟩ := hS2.facts
        have HS2 := Lib.hid hS2
        clear hS2
        go_wp2_with fail
        go_quiet (fail)
        obtain ⟨w3, hw3⟩ : ∃ w3, w3 = w2.drewN nq := ⟨_, rfl⟩
        have hS3 := HS2.out.drewN nq
        rw [← hw3] at hS3 ⊢
        clear k0 k1 k2 k3 f1 f3 hw3 HS2
        have hSd := hS3.drew
        obtain ⟨k0, k1, k2, k3, f1, f3⟩ := hSd.facts
        have i1 : (0 : Int) ≤ (a1 : Int) := by omega
        have i2 : (a1 : Int) ≤ (a1 : Int) + (n : Int) := by omega
        have i3 : (a1 : Int) + (n : Int) ≤ (s.size : Int) := by omega
        have j3 : IntKind.i64.wrap ((a1 : Int) + (n : Int)) = (a1 : Int) + (n : Int) := IntWalk.i64_in _ (by omega)
        have j4 : ((a1 : Int) + (n : Int)).toNat = a1 + n := by omega
        have hxz : (s.extract a1 (a1 + n)).size = n := by rw [ByteArray.size_extract]; omega
        have hxl : (s.extract a1 (a1 + n)).data.toList = (s.data.toList.drop (a1 + n + 2 - 2 - n)).take n := by
          rw [lst_ext, List.drop_take]; congr 1 <;> first | omega | (congr 1; omega)
        obtain ⟨t, ht⟩ : ∃ t, t = s.extract a1 (a1 + n) := ⟨_, rfl⟩
        rw [← ht] at hxz hxl
        have HXL := Lib.hid hxl
        clear hxl
        have HT := Lib.hid ht
        clear hS3 ht
        go_wp2_with fail
        go_cut [] from 12 (fun wx => ∃ A' c', ChS w0 wx g s a1 (m : Int) (.slice A' (out.length + n) c') (.slice A' (out.length + n) c') (out ++ t.data.toList))
        case first =>
          go_region_law (first | (refine step_ch rfl (.tmp 45) (.tmp 60) rfl hSd (by rfl) t (by rw [HT.out]; rfl) n hxz (by omega) ?_; intro A1 c1' w5 hH5; obtain ⟨kk0, kk1, kk2, kk3, ff1, ff3⟩ := hH5.facts))
          all_goals
            go_wp2_with fail
            go_meet
            case rel => exact ⟨_, _, hH5.put _⟩
        case rest =>
          obtain ⟨A', c', hH6⟩ := hcut
          clear k0 k1 k2 k3 f1 f3 hSd
          obtain ⟨k0, k1, k2, k3, f1, f3⟩ := hH6.facts
          have hH7 := hH6.go (b := (a1 : Int) + (n : Int)) (b' := a1 + n) (by omega)
          obtain ⟨w7, hw7⟩ : ∃ w7, wc.setCell ⟨g, 1, none⟩ (.int .i64 ((a1 : Int) + (n : Int))) = w7 := ⟨_, rfl⟩
          rw [hw7] at hH7
          have HH7 := Lib.hid hH7
          have CL := Lib.hid (line_any s (a1 + n) (m : Int) _ g w7 hH7.hb (by omega) hs _ rfl)
          clear hH6 hH7
          go_wp2_with fail
          refine CL.out.mono ?_
          rintro e w8 ⟨rfl, ⟨a', ha', hE', hb'⟩, hk'⟩
          have hS8 := HH7.out.off hk' hb'
          have HE8 := Lib.hid hE'
          have HS8 := Lib.hid hS8
          clear hE' hb' hk' hS8 CL hw7
          by_cases e2 : nlE (s.data.toList.drop (a1 + n)) = 0
          · have HR := Lib.hid (HRO.out e2)
            have ha2 := HE8.out e2
            go_wp2_with fail
            go_ret2
            refine ⟨_, _, _, n, HR.out, by first | rfl | (rw [e2]; rfl), fun _ => ⟨rfl, .slice A' (out.length + n) c', ?_⟩, HS8.out.be⟩
            have h9 := HS8.out
            rw [ha2, HXL.out] at h9
            exact h9
          · have HR := Lib.hid (HRE.out e2)
            go_wp2_with fail
            go_ret2
            exact ⟨_, _, _, n, HR.out, rfl, fun h => absurd h e2, HS8.out.be⟩
  · have HR : Hid (stepC s.data.toList (m : Int) a out.length = (E, 0, 0)) := by
      show _ = _
      rcases hP with ⟨h1, h2, h3⟩ | ⟨h1, h2, h3, h4⟩
      · exact step_nodig h1 E h3
      · rw [step_line rfl h1 (by rw [← h4]; exact e0), h4]
    have ee : (E != 0) = true := bne_iff_ne.2 e0
    have HBE := Lib.hid hS1.be
    clear hP hE hS1
    go_wp2_with fail
    go_ret2
    exact ⟨_, _, _, 0, HR.out, rfl, fun h => absurd h e0, HBE.out⟩
end
end Go.Proofs.YtkcncgdgicffhaaDoor
