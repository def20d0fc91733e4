/- Walk: vars.body. -/
import Derived.Test.YtaepbpdcfmklpaaDoorVofA
namespace Go.Proofs.YtaepbpdcfmklpaaDoor
open Go.RowKit
set_option linter.unusedVariables false
set_option linter.unusedSimpArgs false

theorem getL_mem {fs : List Fd} {name x : ByteArray} (h : x ∈ getL fs name) : ∃ f ∈ fs, x = f.v := by
  unfold getL at h
  obtain ⟨f, hf, rfl⟩ := List.mem_map.1 h
  exact ⟨f, (List.mem_filter.1 hf).1, rfl⟩
theorem endR_ok {b : ByteArray} (h : (endR b).2 = true) : (endR b).1.size ≤ 70 := by
  cases hb : bndL (unqS b) with
  | true => rw [endR_yes rfl hb]; exact (bnd_size hb).2
  | false => rw [endR_no rfl hb] at h; exact absurd h Bool.false_ne_true
theorem bndR_ok {v : ByteArray} (h : (bndR v).2 = true) : (bndR v).1.size ≤ 70 := by
  by_cases h1 : kindB v = true ∧ frontB (restS v) bpB = true
  · have e := bndR_yes h1.1 h1.2
    rw [e] at h ⊢
    exact endR_ok h
  · have e := bndR_no h1
    rw [e] at h
    exact absurd h Bool.false_ne_true
/-- the request's box -/
structure Rq (w : World) (m t : ByteArray) (A : Option Addr) (cap : Nat) (fs : List Fd) (body : ByteArray) (wr : World) : Prop where
  blk : Blk wr w.heap.size 26 #[.string m, .string t, .slice A fs.length cap, .string body]
  fds : FdR wr w.heap.size A cap fs
  be : Below w.heap.size w wr
section
variable {w wr wr' : World} {m t : ByteArray} {A : Option Addr} {cap : Nat} {fs : List Fd} {body : ByteArray}
theorem Rq.start (h : FdR w w.heap.size A cap fs) : Rq w m t A cap fs body (w.alloc (.cells #[.string m, .string t, .slice A fs.length cap, .string body] 26)) :=
  ⟨Blk.new _ _ _, h.alloc (Nat.le_refl _) _, (Below.refl _ _).alloc (Nat.le_refl _) _⟩
theorem Rq.step (h : Rq w m t A cap fs body wr) (hb : Below wr.heap.size wr wr') : Rq w m t A cap fs body wr' := ⟨h.blk.below hb h.blk.lt, h.fds.below (hb.mono h.be.size), h.be.trans (hb.mono h.be.size)⟩
theorem Rq.grow (h : Rq w m t A cap fs body wr) (hb : Below (w.heap.size + 1) wr wr') : Rq w m t A cap fs body wr' := ⟨h.blk.below hb (Nat.lt_succ_self _), h.fds.below (hb.mono (Nat.le_succ _)), h.be.trans (hb.mono (Nat.le_succ _))⟩
theorem Rq.facts (h : Rq w m t A cap fs body wr) : wr.cell? ⟨w.heap.size, 0, none⟩ = some (.string m) ∧ wr.cell? ⟨w.heap.size, 1, none⟩ = some (.string t) ∧ wr.cell? ⟨w.heap.size, 2, none⟩ = some (.slice A fs.length cap) ∧ wr.cell? ⟨w.heap.size, 3, none⟩ = some (.string body) :=
  ⟨h.blk.cell 0, h.blk.cell 1, h.blk.cell 2, h.blk.cell 3⟩
end
def PairRes (R : List Fd × Int) (w : World) (e : Ending) (w' : World) : Prop := ∃ v, e = .returned (.tuple #[v, .int .i64 R.2]) ∧ OP 35 w' w.heap.size v R.1 ∧ Below w.heap.size w w'
section
variable (m t : ByteArray) (A : Option Addr) (cap : Nat) (fs : List Fd) (body : ByteArray) (most mx : Int) (w : World)
set_option maxRecDepth 100000 in
set_option maxHeartbeats 8000000 in
theorem body_any (hbz : body.size ≤ 1048576) (hf : FdR w w.heap.size A cap fs) (hfl : fs.length ≤ 1048576) (hm : w.cell? ⟨0, 0, none⟩ = some (.int .i64 mx)) :
    Calls Tryd.prog 21 #[.agg #[.string m, .string t, .slice A fs.length cap, .string body], .int .i64 most] w (PairRes (bodyR (getL fs ctB) body most) w) := by
  have hmb := World.block_lt_of_cell? _ _ hm
  have HM := Lib.hid fun w' (hb : Below w.heap.size w w') => (hb.cell (p := ⟨0, 0, none⟩) hmb).trans hm
  have CG := Lib.hid fun w' (h : Rq w m t A cap fs body w') => get_any m t ctB fs A cap w.heap.size w' (by decide) h.fds hfl h.be.size
  have hvz : ∀ x ∈ getL fs ctB, x.size ≤ 1048576 := fun x hx => by
    obtain ⟨f, hf1, rfl⟩ := getL_mem hx
    exact (hf.2.2.2 f hf1).2
  obtain ⟨W, hW⟩ : ∃ W, w.alloc (.cells #[.string m, .string t, .slice A fs.length cap, .string body] 26) = W := ⟨_, rfl⟩
  have hQ : Rq w m t A cap fs body W := by rw [← hW]; exact Rq.start hf
  have HQ := Lib.hid hQ
  obtain ⟨r0, r1, r2, r3⟩ := hQ.facts
  unfold PairRes
  obtain ⟨R, hR⟩ : ∃ R, R = bodyR (getL fs ctB) body most := ⟨_, rfl⟩
  rw [← hR]
  obtain ⟨L, hL⟩ : ∃ L, L = getL fs ctB := ⟨_, rfl⟩
  rw [← hL] at hR hvz CG
  have HR := Lib.hid hR
  have HVZ := Lib.hid hvz
  clear hQ hf hm hmb hR hL hvz
  go_enter Tryd.func21, Tryd.ntmps21
  go_wp2_with fail
  refine (CG.out _ HQ.out).mono ?_
  rintro e w1 ⟨v, rfl, ho1, b1⟩
  obtain ⟨A1, c1, rfl⟩ := ho1.form
  have HQ1 := Lib.hid (HQ.out.step b1)
  clear b1 hW r0 r1 r2 r3
  obtain ⟨r0, r1, r2, r3⟩ := HQ1.out.facts
  cases L with
  | nil =>
    have HF : Hid (R = ([], 0)) := Lib.hid (by rw [HR.out]; rfl)
    clear ho1
    go_wp2_with fail
    go_ret2
    exact ⟨.slice none 0 0, by rw [HF.out]; rfl, by rw [HF.out]; exact OP.nil _ _ _, HQ1.out.be⟩
  | cons v0 L =>
    obtain ⟨g, eA, hg1, hg2, hg3, hcell⟩ := ho1.at_ (by simp)
    subst eA
    have x0 : w1.cell? ⟨g, 0, none⟩ = some (.string v0) := hcell 0 (by simp)
    have HX := Lib.hid fun w' (hb : Below w1.heap.size w1 w') => (hb.cell (p := ⟨g, 0, none⟩) hg2).trans x0
    have hvz := HVZ.out v0 (by simp)
    have hll : ((v0 :: L).length : Int) = (L.length : Int) + 1 := by simp
    have i0 : (0 : Int) < (L.length : Int) + 1 := by omega
    have i1 : ((L.length : Int) + 1 == 0) = false := beq_eq_false_iff_ne.2 (by omega)
    have C1 := Lib.hid fun w' (hb : Below w.heap.size w w') => cut_any v0 ⟨#[59]⟩ mx w' hvz (HM.out w' hb)
    have hcs := (cutS_size v0 ⟨#[59]⟩).1
    obtain ⟨k0, hk0⟩ : ∃ k, k = (cutS v0 ⟨#[59]⟩).1 := ⟨_, rfl⟩
    obtain ⟨k1, hk1⟩ : ∃ k, k = (cutS v0 ⟨#[59]⟩).2.1 := ⟨_, rfl⟩
    obtain ⟨k2, hk2⟩ : ∃ k, k = (cutS v0 ⟨#[59]⟩).2.2 := ⟨_, rfl⟩
    rw [← hk0, ← hk1, ← hk2] at C1
    rw [← hk0] at hcs
    have C2 := fun w' => trim_any k0 w' (by omega)
    have htl := trimL_len k0.data.toList
    rw [lst_len] at htl
    obtain ⟨z, hz⟩ : ∃ z, z = str (trimL k0.data.toList) := ⟨_, rfl⟩
    have hzz : z.size ≤ 1048576 := by rw [hz, size_str]; omega
    rw [← hz] at C2
    have C3 := fun w' => lower_any z w' (by omega)
    obtain ⟨Z, hZ⟩ : ∃ Z, Z = z.data.toList.map lowB := ⟨_, rfl⟩
    rw [← hZ] at C3
    have hU : urlK v0 = (Z == ueB.data.toList) := by unfold urlK; rw [← hk0, ← hz, ← hZ]
    have HU := Lib.hid hU
    have C2 := Lib.hid C2
    have C3 := Lib.hid C3
    clear hk0 hk1 hk2 hz hZ hU ho1 hcell htl
    go_wp2_with fail
    refine (C1.out _ HQ1.out.be).mono ?_
    rintro e w2 ⟨rfl, q, hw2⟩
    have HB2 : Hid (Below w1.heap.size w1 w2) := Lib.hid (by rw [hw2]; exact below_drewN (Below.refl _ _) q)
    clear hw2
    go_wp2_with fail
    refine (C2.out _).mono ?_
    rintro e w' ⟨rfl, rfl⟩
    go_wp2_with fail
    refine (C3.out _).mono ?_
    rintro e w3 ⟨rfl, b3⟩
    have HB3 := Lib.hid (HB2.out.trans (b3.mono HB2.out.size))
    have HQ3 := Lib.hid (HQ1.out.step HB3.out)
    clear b3 r0 r1 r2 r3 x0
    obtain ⟨r0, r1, r2, r3⟩ := HQ3.out.facts
    have x0 := HX.out _ HB3.out
    cases hq : (Z == ueB.data.toList) with
    | true =>
      have q1 : (Z == [97, 112, 112, 108, 105, 99, 97, 116, 105, 111, 110, 47, 120, 45, 119, 119, 119, 45, 102, 111, 114, 109, 45, 117, 114, 108, 101, 110, 99, 111, 100, 101, 100]) = true := hq
      have HF := Lib.hid (HR.out.trans (body_url (HU.out.trans hq)))
      have C4 := form_any body most mx w3 hbz (HM.out _ HQ3.out.be)
      unfold LimRes at C4
      rw [show (pcs body ⟨#[38]⟩).flatMap keepF = formA body from rfl] at C4
      obtain ⟨EE, hEE⟩ : ∃ EE, EE = limE most (formA body) := ⟨_, rfl⟩
      obtain ⟨RR, hRR⟩ : ∃ RR, RR = limR most (formA body) := ⟨_, rfl⟩
      rw [← hEE, ← hRR] at C4 HF
      have C4 := Lib.hid C4
      clear hq hEE hRR
      go_wp2_with fail
      refine C4.out.mono ?_
      rintro e w4 ⟨v, rfl, ho4, b4⟩
      have HO4 := Lib.hid (ho4.mono HQ3.out.be.size)
      have HB4 := Lib.hid (HQ3.out.be.trans (b4.mono HQ3.out.be.size))
      clear ho4 b4
      go_wp2_with fail
      go_ret2
      exact ⟨v, by rw [HF.out]; rfl, by rw [HF.out]; exact HO4.out, HB4.out⟩
    | false =>
      have q1 : (Z == [97, 112, 112, 108, 105, 99, 97, 116, 105, 111, 110, 47, 120, 45, 119, 119, 119, 45, 102, 111, 114, 109, 45, 117, 114, 108, 101, 110, 99, 111, 100, 101, 100]) = false := hq
      have hu := HU.out.trans hq
      have C4 := boundary_any v0 mx w3 hvz (HM.out _ HQ3.out.be)
      have hbr := body_no (v := v0) (l := L) (body := body) (most := most) hu
      have hbm := body_multi (v := v0) (l := L) (body := body) (most := most) hu
      have hbk := bndR_ok (v := v0)
      obtain ⟨b, hb⟩ : ∃ b, b = (bndR v0).1 := ⟨_, rfl⟩
      obtain ⟨o, ho⟩ : ∃ o, o = (bndR v0).2 := ⟨_, rfl⟩
      rw [← hb, ← ho] at C4 hbm hbk
      rw [← ho] at hbr
      rw [← HR.out] at hbr hbm
      have C4 := Lib.hid C4
      have HBR := Lib.hid hbr
      have HBM := Lib.hid hbm
      clear hq hu hb ho hbr hbm
      go_wp2_with fail
      refine C4.out.mono ?_
      rintro e w4 ⟨rfl, b4⟩
      have HQ4 := Lib.hid (HQ3.out.step b4)
      clear b4 r0 r1 r2 r3 x0
      obtain ⟨r0, r1, r2, r3⟩ := HQ4.out.facts
      cases o with
      | false =>
        have HF := Lib.hid (HBR.out rfl)
        go_wp2_with fail
        go_ret2
        exact ⟨.slice none 0 0, by rw [HF.out]; rfl, by rw [HF.out]; exact OP.nil _ _ _, HQ4.out.be⟩
      | true =>
        have hbz2 := hbk rfl
        obtain ⟨M2, hM2⟩ : ∃ M2, min most 20 = M2 := ⟨_, rfl⟩
        have HF0 := HBM.out rfl
        rw [hM2] at HF0
        have C5 := parts_any b body M2 mx w4 (by omega) (HM.out _ HQ4.out.be)
        unfold PsRes at C5
        obtain ⟨RR, hRR⟩ : ∃ RR, RR = readR b body M2 := ⟨_, rfl⟩
        rw [← hRR] at C5 HF0
        have C5 := Lib.hid C5
        obtain ⟨rl, re⟩ := RR
        have HF : Hid (R = (rl, errM re)) := Lib.hid HF0
        clear hRR HF0 hbk
        go_wp2_with fail
        refine C5.out.mono ?_
        rintro e w5 ⟨v, rfl, ho5, b5⟩
        have HO5 : Hid (OP 35 w5 w.heap.size v rl) := Lib.hid (ho5.mono HQ4.out.be.size)
        have HB5 := Lib.hid (HQ4.out.be.trans (b5.mono HQ4.out.be.size))
        clear ho5 b5
        by_cases e0 : re = 0
        · subst e0
          go_wp2_with fail
          go_ret2
          exact ⟨v, by rw [HF.out]; rfl, by rw [HF.out]; exact HO5.out, HB5.out⟩
        · by_cases e2 : re = 2
          · subst e2
            go_wp2_with fail
            go_ret2
            exact ⟨v, by rw [HF.out]; rfl, by rw [HF.out]; exact HO5.out, HB5.out⟩
          · have d0 : (re != 0) = true := bne_iff_ne.2 e0
            have d2 : (re != 2) = true := bne_iff_ne.2 e2
            have HF4 : Hid (R = (rl, 4)) := Lib.hid (by rw [HF.out]; unfold errM; rw [if_neg (fun h => h.elim e0 e2)])
            clear e0 e2
            go_wp2_with fail
            go_ret2
            exact ⟨v, by rw [HF4.out]; rfl, by rw [HF4.out]; exact HO5.out, HB5.out⟩
end
end Go.Proofs.YtaepbpdcfmklpaaDoor
