/- Walk: frame.Of. -/
import Derived.Test.YtkcncgdgicffhaaDoorGx
namespace Go.Proofs.YtkcncgdgicffhaaDoor
open Go.RowKit
set_option linter.unusedVariables false
set_option linter.unusedSimpArgs false

section
variable (m t : ByteArray) (A : Option Addr) (cap : Nat) (fs : List Fd) (w : World)
theorem Fz.alloc {w wr : World} {m t : ByteArray} {A : Option Addr} {cap : Nat} {fs : List Fd} (h : Fz w m t A cap fs wr) (o : Obj) : Fz w m t A cap fs (wr.alloc o) := h.step ((Below.refl _ _).alloc (Nat.le_refl _) _)
theorem Fz.setHi {w wr : World} {m t : ByteArray} {A : Option Addr} {cap : Nat} {fs : List Fd} (h : Fz w m t A cap fs wr) {g : Nat} (hg : w.heap.size + 1 < g) (v : Value) : Fz w m t A cap fs (wr.setCell ⟨g, 0, none⟩ v) := by
  have hk : ∀ k, k ≤ w.heap.size + 1 → (wr.setCell ⟨g, 0, none⟩ v).heap[k]? = wr.heap[k]? := fun k hk => Below.heap_setCell wr ⟨g, 0, none⟩ v k (by show k ≠ g; omega)
  refine ⟨(hk _ (by omega)).trans h.hd, (hk _ (by omega)).trans h.res, h.fds.keep fun p hp => World.cell?_setCell_other wr ⟨g, 0, none⟩ p v (fun e => by subst e; dsimp only at hp; omega), h.be.setCell (p := ⟨g, 0, none⟩) (by show w.heap.size ≤ g; omega) v⟩
theorem OS.setNe {w : World} {B : Nat} {v : Value} {l : List ByteArray} (h : OS w B v l) {g : Nat} (hne : v.ownBlock ≠ some g) (u : Value) : OS (w.setCell ⟨g, 0, none⟩ u) B v l := by
  refine ⟨h.1, ?_⟩
  rcases h.2 with h2 | ⟨b, cap, cur, e1, e2, e3, e4⟩
  · exact .inl h2
  · refine .inr ⟨b, cap, cur, e1, e2, ?_, e4⟩
    have hb : b ≠ g := fun e => hne (by rw [e1, e]; rfl)
    rw [Below.heap_setCell w ⟨g, 0, none⟩ u b hb]; exact e3
theorem OS.lt_own {w : World} {B : Nat} {v : Value} {l : List ByteArray} (h : OS w B v l) {g : Nat} (hg : w.heap.size ≤ g) : v.ownBlock ≠ some g := fun e => by
  have := (World.ownsRow.lt h g e).2; omega
theorem OS.ge_own {w : World} {B : Nat} {v : Value} {l : List ByteArray} (h : OS w B v l) {g : Nat} (hg : g < B) : v.ownBlock ≠ some g := fun e => by
  have := (World.ownsRow.lt h g e).1; omega
set_option maxRecDepth 100000 in
set_option maxHeartbeats 8000000 in
theorem frameOf_any (hf : FdR w w.heap.size A cap fs) (hfl : fs.length ≤ 1048576) :
    Calls Tryd.prog 9 #[.agg #[.string m, .string t, .slice A fs.length cap]] w (FrRes (frR (getL fs clB) (getL fs teB)) w) := by
  have CA : ∀ w', Fz w m t A cap fs w' → Calls Tryd.prog 42 #[.agg #[.string m, .string t, .slice A fs.length cap], .string ⟨#[99, 111, 110, 116, 101, 110, 116, 45, 108, 101, 110, 103, 116, 104]⟩] w' fun e w'' => ∃ v, e = .returned v ∧ OS w'' w'.heap.size v (getL fs clB) ∧ Below w'.heap.size w' w'' := fun w' h => get_any m t clB fs A cap w.heap.size w' (by decide) h.fds hfl h.be.size
  have CB : ∀ w', Fz w m t A cap fs w' → Calls Tryd.prog 42 #[.agg #[.string m, .string t, .slice A fs.length cap], .string ⟨#[116, 114, 97, 110, 115, 102, 101, 114, 45, 101, 110, 99, 111, 100, 105, 110, 103]⟩] w' fun e w'' => ∃ v, e = .returned v ∧ OS w'' w'.heap.size v (getL fs teB) ∧ Below w'.heap.size w' w'' := fun w' h => get_any m t teB fs A cap w.heap.size w' (by decide) h.fds hfl h.be.size
  have hza : ∀ x ∈ getL fs clB, x.size ≤ 1048576 := fun x hx => by
    unfold getL at hx
    obtain ⟨f, hf1, rfl⟩ := List.mem_map.1 hx
    exact (hf.2.2.2 f (List.mem_filter.1 hf1).1).2
  have hzb : ∀ x ∈ getL fs teB, x.size ≤ 1048576 := fun x hx => by
    unfold getL at hx
    obtain ⟨f, hf1, rfl⟩ := List.mem_map.1 hx
    exact (hf.2.2.2 f (List.mem_filter.1 hf1).1).2
  obtain ⟨a, ha⟩ : ∃ a, a = getL fs clB := ⟨_, rfl⟩
  obtain ⟨b, hb⟩ : ∃ b, b = getL fs teB := ⟨_, rfl⟩
  rw [← ha] at CA hza
  rw [← hb] at CB hzb
  unfold FrRes
  rw [← ha, ← hb]
  have hal : a.length ≤ 1048576 := by rw [ha]; exact Nat.le_trans (getL_len _ _) hfl
  have CA := Lib.hid CA
  have CB := Lib.hid CB
  have HZA := Lib.hid hza
  have HZB := Lib.hid hzb
  obtain ⟨W, hW⟩ : ∃ W, (w.alloc (.cells #[.string m, .string t, .slice A fs.length cap] 24)).alloc (.cells #[.int .i64 0, .int .i64 0] 27) = W := ⟨_, rfl⟩
  have hZ : Fz w m t A cap fs W := by rw [← hW]; exact Fz.start hf
  have hZd := hZ.drew
  have HZ := Lib.hid hZ
  obtain ⟨r0, r1, r2⟩ := hZ.facts
  obtain ⟨p0, p1, p2⟩ := hZd.facts
  obtain ⟨R, hR⟩ : ∃ R, R = frR a b := ⟨_, rfl⟩
  rw [← hR]
  have HR := Lib.hid hR
  clear ha hb hf hza hzb hR
  go_enter Tryd.func9, Tryd.ntmps9
  go_upto_region 1 with fail
  go_cut [4, 5] from 8 to 11 (fun u v wx => ∃ g A1 c1 A2 c2, u = .pointer (some ⟨g, 0, none⟩) ∧ v = .slice A2 b.length c2 ∧ w.heap.size + 1 < g ∧ Blk wx g 81 #[.slice A1 a.length c1] ∧ OS wx w.heap.size (.slice A1 a.length c1) a ∧ OS wx w.heap.size (.slice A2 b.length c2) b ∧ Hid (Fz w m t A cap fs wx))
  case first =>
    have hl1 := hZd.lt
    have hl2 := hZd.hd.lt
    have hl3 := hZ.lt
    have hl4 := hZ.hd.lt
    have hG0 : Blk (W.alloc (.cells #[.slice none 0 0] 81)).drew W.heap.size 81 #[.slice none 0 0] := Blk.new W _ _
    have HSZW : Hid ((W.alloc (.cells #[.slice none 0 0] 81)).drew.heap.size = W.heap.size + 1) := Lib.hid (by show (W.alloc _).heap.size = _; simp)
    have HSZD : Hid (W.drew.heap.size = W.heap.size) := Lib.hid rfl
    go_region_law (first
      | (go_simp; go_at_call 42; (with_reducible refine (CA.out _ ?_).mono ?_); (first | assumption | exact Fz.alloc (by assumption) _ | exact Fz.drew (Fz.alloc (by assumption) _) | exact Fz.setHi (by assumption) (by omega) _); rintro e w' ⟨v', rfl, ho', hb'⟩; have hs' := Fz.step (by first | assumption | exact Fz.alloc (by assumption) _ | exact Fz.drew (Fz.alloc (by assumption) _) | exact Fz.setHi (by assumption) (by omega) _) hb'; obtain ⟨q0, q1, q2⟩ := hs'.facts; have ql := hs'.lt; have ql2 := hs'.hd.lt; have qb := hb'.size; have qsa : Hid ((w'.alloc (.cells #[.slice none 0 0] 81)).heap.size = w'.heap.size + 1) := Lib.hid (by simp); (try have hg1 := Blk.below hG0 hb' (by simp)); (try have u0 := hg1.cell 0); (try have u1 := hg1.frozen 0); (try have hg2 := Blk.below (Blk.new _ _ _) hb' (by simp)); (try have u2 := hg2.cell 0); (try have u3 := hg2.frozen 0); (try have hg3 := Blk.below hg1 hb' (Blk.lt hg1)); (try have u4 := hg3.cell 0); (try have u5 := hg3.frozen 0); (try have hg4 := Blk.below (hg1.set_ 0 _) hb' (by simpa using Blk.lt hg1)); obtain ⟨A', c', rfl⟩ := ho'.form; have hoa := ho'; have hboa := hb')
      | (go_simp; go_at_call 42; (with_reducible refine (CB.out _ ?_).mono ?_); (first | assumption | exact Fz.alloc (by assumption) _ | exact Fz.drew (Fz.alloc (by assumption) _) | exact Fz.setHi (by assumption) (by omega) _); rintro e w' ⟨v', rfl, ho', hb'⟩; have hs' := Fz.step (by first | assumption | exact Fz.alloc (by assumption) _ | exact Fz.drew (Fz.alloc (by assumption) _) | exact Fz.setHi (by assumption) (by omega) _) hb'; obtain ⟨q0, q1, q2⟩ := hs'.facts; have ql := hs'.lt; have ql2 := hs'.hd.lt; have qb := hb'.size; have qsb : Hid ((w'.alloc (.cells #[.slice none 0 0] 81)).heap.size = w'.heap.size + 1) := Lib.hid (by simp); (try have hg1 := Blk.below hG0 hb' (by simp)); (try have u0 := hg1.cell 0); (try have u1 := hg1.frozen 0); (try have hg2 := Blk.below (Blk.new _ _ _) hb' (by simp)); (try have u2 := hg2.cell 0); (try have u3 := hg2.frozen 0); (try have hg3 := Blk.below hg1 hb' (Blk.lt hg1)); (try have u4 := hg3.cell 0); (try have u5 := hg3.frozen 0); (try have hg4 := Blk.below (hg1.set_ 0 _) hb' (by simpa using Blk.lt hg1)); obtain ⟨A', c', rfl⟩ := ho'.form; have hob := ho'; have hbob := hb'))
    all_goals go_wp2_with fail
    all_goals go_meet
    all_goals have z1 := HSZW.out
    all_goals have z2 := HSZD.out
    all_goals have z3 := qsa.out
    all_goals have z4 := qsb.out
    all_goals first
      | have HA := (hoa.mono (by omega) : OS w' w.heap.size _ a)
      | have HA := ((hoa.kept hbob).mono (by omega) : OS w' w.heap.size _ a)
      | have HA := (((hoa.alloc _).kept hbob).mono (by omega) : OS w' w.heap.size _ a)
    all_goals first
      | have HB := (hob.mono (by omega) : OS w' w.heap.size _ b)
      | have HB := ((hob.kept hboa).mono (by omega) : OS w' w.heap.size _ b)
      | have HB := (((hob.alloc _).kept hboa).mono (by omega) : OS w' w.heap.size _ b)
    all_goals first
      | exact ⟨_, _, _, _, _, rfl, rfl, by omega, Blk.new _ _ _, HA.alloc _, HB.alloc _, Lib.hid (Fz.alloc hs' _)⟩
      | exact ⟨_, _, _, _, _, rfl, rfl, by omega, (by first | exact hg2.set_ 0 _ | exact hg1.set_ 0 _ | exact hg3.set_ 0 _), HA.setNe (by first | exact hoa.lt_own (by omega) | exact hoa.ge_own (by omega)) _, HB.setNe (by first | exact hob.lt_own (by omega) | exact hob.ge_own (by omega)) _, Lib.hid (Fz.setHi hs' (by omega) _)⟩
      | exact Nat.zero
  case rest =>
    obtain ⟨g, A1, c1, A2, c2, rfl, rfl, hgt, hbk, hoa, hob, HZc⟩ := hcut
    clear r0 r1 r2 p0 p1 p2 hZd hW HZ hZ
    obtain ⟨s0, s1, s2, s3⟩ := HZc.out.rfacts
    have y0 : wc.cell? ⟨g, 0, none⟩ = some (.slice A1 a.length c1) := hbk.cell 0
    cases a with
    | nil =>
      cases b with
      | nil =>
        have HF : Hid (R = (1, 0, 0)) := Lib.hid HR.out
        clear hoa hob
        obtain ⟨wz, hwz, hbz, z0, z1⟩ := HZc.out.put (.int .i64 1) (.int .i64 0)
        go_wp2_with fail
        rw [← hwz]
        exact bodyPost_ret (v := .tuple #[.agg #[.int .i64 1, .int .i64 0], .int .i64 0]) (by simp [results, Tryd.results9, go_sem, z0, z1]) rfl ⟨by rw [HF.out], hbz⟩
      | cons x b =>
        obtain ⟨g2, eA, hg1, hg2, hg3, hcell⟩ := hob.at_ (by simp)
        subst eA
        have x0 : wc.cell? ⟨g2, 0, none⟩ = some (.string x) := hcell 0 (by simp)
        have hxz := HZB.out x (by simp)
        have i2 : (0 : Int) < (b.length : Int) + 1 := by omega
        have i3 : ((b.length : Int) + 1 == 0) = false := beq_eq_false_iff_ne.2 (by omega)
        cases b with
        | cons y b =>
          have i1 : (1 : Int) < (b.length : Int) + 1 + 1 := by omega
          have i2' : (0 : Int) < (b.length : Int) + 1 + 1 := by omega
          have i3' : ((b.length : Int) + 1 + 1 == 0) = false := beq_eq_false_iff_ne.2 (by omega)
          have HF : Hid (R = (0, 0, 4)) := Lib.hid HR.out
          clear hoa hob hcell x0
          obtain ⟨wz, hwz, hbz, z0, z1⟩ := HZc.out.put (.int .i64 0) (.int .i64 0)
          go_wp2_with fail
          rw [← hwz]
          exact bodyPost_ret (v := .tuple #[.agg #[.int .i64 0, .int .i64 0], .int .i64 4]) (by simp [results, Tryd.results9, go_sem, z0, z1]) rfl ⟨by rw [HF.out], hbz⟩
        | nil =>
          have CL := fun w' => lower_any x w' (by omega)
          obtain ⟨Z, hZ2⟩ : ∃ Z, Z = x.data.toList.map lowB := ⟨_, rfl⟩
          rw [← hZ2] at CL
          have CL := Lib.hid CL
          have hch : chunkB x = (Z == chB.data.toList) := by unfold chunkB; rw [hZ2]
          have HCH := Lib.hid hch
          clear hZ2 hch hoa hob hcell
          go_wp2_with fail
          refine (CL.out _).mono ?_
          rintro e w3 ⟨rfl, b3⟩
          have HZ3 := Lib.hid (HZc.out.step b3)
          clear b3 s0 s1 s2 s3
          obtain ⟨s0, s1, s2, s3⟩ := HZ3.out.rfacts
          cases hq : (Z == chB.data.toList) with
          | true =>
            have q1 : (Z == [99, 104, 117, 110, 107, 101, 100]) = true := hq
            have HF : Hid (R = (3, 0, 0)) := Lib.hid (by rw [HR.out, fr_one, HCH.out, hq]; rfl)
            clear hq
            obtain ⟨wz, hwz, hbz, z0, z1⟩ := HZ3.out.put (.int .i64 3) (.int .i64 0)
            go_wp2_with fail
            rw [← hwz]
            exact bodyPost_ret (v := .tuple #[.agg #[.int .i64 3, .int .i64 0], .int .i64 0]) (by simp [results, Tryd.results9, go_sem, z0, z1]) rfl ⟨by rw [HF.out], hbz⟩
          | false =>
            have q1 : (Z == [99, 104, 117, 110, 107, 101, 100]) = false := hq
            have HF : Hid (R = (0, 0, 4)) := Lib.hid (by rw [HR.out, fr_one, HCH.out, hq]; rfl)
            clear hq
            obtain ⟨wz, hwz, hbz, z0, z1⟩ := HZ3.out.put (.int .i64 0) (.int .i64 0)
            go_wp2_with fail
            rw [← hwz]
            exact bodyPost_ret (v := .tuple #[.agg #[.int .i64 0, .int .i64 0], .int .i64 4]) (by simp [results, Tryd.results9, go_sem, z0, z1]) rfl ⟨by rw [HF.out], hbz⟩
    | cons a0 a =>
      obtain ⟨g2, eA, hg1, hg2, hg3, hcell⟩ := hoa.at_ (by simp)
      subst eA
      have x0 : wc.cell? ⟨g2, 0, none⟩ = some (.string a0) := hcell 0 (by simp)
      have haz := HZA.out a0 (by simp)
      have i2 : (0 : Int) < (a.length : Int) + 1 := by omega
      have i3 : ((a.length : Int) + 1 == 0) = false := beq_eq_false_iff_ne.2 (by omega)
      cases b with
      | cons x b =>
        have j2 : (0 : Int) < (b.length : Int) + 1 := by omega
        have j3 : ((b.length : Int) + 1 == 0) = false := beq_eq_false_iff_ne.2 (by omega)
        have HF : Hid (R = (0, 0, 4)) := Lib.hid HR.out
        clear hoa hob hcell x0
        obtain ⟨wz, hwz, hbz, z0, z1⟩ := HZc.out.put (.int .i64 0) (.int .i64 0)
        go_wp2_with fail
        rw [← hwz]
        exact bodyPost_ret (v := .tuple #[.agg #[.int .i64 0, .int .i64 0], .int .i64 4]) (by simp [results, Tryd.results9, go_sem, z0, z1]) rfl ⟨by rw [HF.out], hbz⟩
      | nil =>
        have CN := Lib.hid fun w' => decS_any a0 w' (by unfold maxLen; omega)
        obtain ⟨n, hn⟩ : ∃ n, n = numN 10 9 a0 := ⟨_, rfl⟩
        obtain ⟨E, hE⟩ : ∃ E, E = numE 10 9 a0 := ⟨_, rfl⟩
        rw [← hn, ← hE] at CN
        have hE2 : E = 0 ∨ E = 4 := by rw [hE]; rcases numE_cases a0 with h | h <;> omega
        have hcap : c1 ≤ 9223372036854775807 := by
          rcases hoa.2 with ⟨e, h2⟩ | ⟨_, c', _, e, _, _, _, h4, _⟩
          · cases h2
          · injection e with _ _ e3; subst e3; unfold maxLen at h4; omega
        have CC := conF_any g g2 c1 (a0 :: a) a0 wc hal ⟨hg3, hcap⟩ y0 x0 hcell
        have hnum := fr_num a0 a
        rw [← hE, ← hn, ← HR.out] at hnum
        obtain ⟨P, hP⟩ : ∃ P, P = allS (a0 :: a) a0 := ⟨_, rfl⟩
        rw [← hP] at CC hnum
        have HNUM := Lib.hid hnum
        have CC := Lib.hid CC
        clear hn hE hoa hob hP hcell hnum
        go_wp2_with fail
        refine (CN.out _).mono ?_
        rintro e w3 ⟨rfl, rfl⟩
        rcases hE2 with rfl | rfl
        · cases P with
          | true =>
            have HF : Hid (R = (2, n, 0)) := Lib.hid (by rw [HNUM.out]; rfl)
            go_wp2_with fail
            refine CC.out.mono ?_
            rintro e w3 ⟨rfl, rfl⟩
            obtain ⟨wz, hwz, hbz, z0, z1⟩ := HZc.out.put (.int .i64 2) (.int .i64 n)
            go_wp2_with fail
            rw [← hwz]
            exact bodyPost_ret (v := .tuple #[.agg #[.int .i64 2, .int .i64 n], .int .i64 0]) (by simp [results, Tryd.results9, go_sem, z0, z1]) rfl ⟨by rw [HF.out], hbz⟩
          | false =>
            have HF : Hid (R = (0, 0, 4)) := Lib.hid (by rw [HNUM.out, if_neg (fun h => Bool.false_ne_true h.2)])
            go_wp2_with fail
            refine CC.out.mono ?_
            rintro e w3 ⟨rfl, rfl⟩
            obtain ⟨wz, hwz, hbz, z0, z1⟩ := HZc.out.put (.int .i64 0) (.int .i64 0)
            go_wp2_with fail
            rw [← hwz]
            exact bodyPost_ret (v := .tuple #[.agg #[.int .i64 0, .int .i64 0], .int .i64 4]) (by simp [results, Tryd.results9, go_sem, z0, z1]) rfl ⟨by rw [HF.out], hbz⟩
        · have HF : Hid (R = (0, 0, 4)) := Lib.hid (by rw [HNUM.out, if_neg (fun h => absurd h.1 (by decide))])
          obtain ⟨wz, hwz, hbz, z0, z1⟩ := HZc.out.put (.int .i64 0) (.int .i64 0)
          go_wp2_with fail
          rw [← hwz]
          exact bodyPost_ret (v := .tuple #[.agg #[.int .i64 0, .int .i64 0], .int .i64 4]) (by simp [results, Tryd.results9, go_sem, z0, z1]) rfl ⟨by rw [HF.out], hbz⟩
end
end Go.Proofs.YtkcncgdgicffhaaDoor
