/- Walk: vars.Of. -/
import Derived.Test.YtaepbpdcfmklpaaDoorVofB
namespace Go.Proofs.YtaepbpdcfmklpaaDoor
open Go.RowKit
set_option linter.unusedVariables false
set_option linter.unusedSimpArgs false

def VoRes (R : List Fd × List Fd × Int) (w : World) (e : Ending) (w' : World) : Prop := ∃ v u, e = .returned (.tuple #[v, u, .int .i64 R.2.2]) ∧ OP 35 w' w.heap.size v R.1 ∧ OP 35 w' w.heap.size u R.2.1 ∧ Below w.heap.size w w'
theorem vo_form {fs : List Fd} {t body : ByteArray} {M : Int} (h : limE M (formA (queS t)) = 2) : argsR fs t body M = ([], [], 2) := by unfold argsR; rw [if_pos (by rw [h]; decide)]
theorem vo_body {fs : List Fd} {t body : ByteArray} {M : Int} (h : limE M (formA (queS t)) = 0) {E : Int} (h2 : (bodyR (getL fs ctB) body (M - (formA (queS t)).length)).2 = E) (h3 : ¬ E = 0) : argsR fs t body M = ([], [], E) := by
  unfold argsR; rw [if_neg (by rw [h]; decide), h2, if_pos h3]
theorem vo_cook {fs : List Fd} {t body : ByteArray} {M : Int} (h : limE M (formA (queS t)) = 0) (h2 : (bodyR (getL fs ctB) body (M - (formA (queS t)).length)).2 = 0) (h3 : limE M ((getL fs ckB).flatMap cookV) = 2) : argsR fs t body M = ([], [], 2) := by
  unfold argsR; rw [if_neg (by rw [h]; decide), h2, if_neg (by decide), if_pos (by rw [h3]; decide)]
theorem vo_ok {fs : List Fd} {t body : ByteArray} {M : Int} (h : limE M (formA (queS t)) = 0) (h2 : (bodyR (getL fs ctB) body (M - (formA (queS t)).length)).2 = 0) (h3 : limE M ((getL fs ckB).flatMap cookV) = 0) :
    argsR fs t body M = (formA (queS t) ++ (bodyR (getL fs ctB) body (M - (formA (queS t)).length)).1, (getL fs ckB).flatMap cookV, 0) := by
  unfold argsR; rw [if_neg (by rw [h]; decide), h2, if_neg (by decide), if_neg (by rw [h3]; decide)]
theorem i64_of_wf {x : Int} (h : (Lit.int .i64 x).wf = true) : -9223372036854775808 ≤ x ∧ x ≤ 9223372036854775807 := by
  have h2 : (decide ((-9223372036854775808 : Int) ≤ x) && decide (x ≤ (9223372036854775807 : Int))) = true := h
  rw [Bool.and_eq_true, decide_eq_true_eq, decide_eq_true_eq] at h2; exact h2
theorem form_le {s : ByteArray} (h : s.size ≤ 1048576) : (formA s).length ≤ 1048577 := formA_len h
section
variable (m t : ByteArray) (A : Option Addr) (cap : Nat) (fs : List Fd) (body : ByteArray) (client : Value) (most mx : Int) (w : World)
set_option maxRecDepth 100000 in
set_option maxHeartbeats 8000000 in
theorem of_any (hmo : (Lit.int .i64 most).wf = true) (htz : t.size ≤ 1048576) (hbz : body.size ≤ 1048576) (hf : FdR w w.heap.size A cap fs) (hfl : fs.length ≤ 1048576) (hsv : sumV fs ≤ 1048576) (hm : w.cell? ⟨0, 0, none⟩ = some (.int .i64 mx)) :
    Calls Tryd.prog 6 #[.agg #[.string m, .string t, .slice A fs.length cap, .string body], client, .int .i64 most] w (VoRes (argsR fs t body (max most 0)) w) := by
  have hmb := World.block_lt_of_cell? _ _ hm
  have HM := Lib.hid fun w' (hb : Below w.heap.size w w') => (hb.cell (p := ⟨0, 0, none⟩) hmb).trans hm
  obtain ⟨b1, b2⟩ := i64_of_wf hmo
  obtain ⟨M, hM⟩ : ∃ M, max most 0 = M := ⟨_, rfl⟩
  have hM0 : 0 ≤ M ∧ M ≤ 9223372036854775807 := by omega
  rw [hM]
  have hqz := queS_size t
  have CQ := Lib.hid fun w' (hb : Below w.heap.size w w') => query_any t w' htz mx (HM.out w' hb)
  obtain ⟨qs, hqs⟩ : ∃ q, q = queS t := ⟨_, rfl⟩
  rw [← hqs] at hqz CQ
  have CF := fun w' (hb : Below w.heap.size w w') => form_any qs M mx w' (by omega) (HM.out w' hb)
  have hFl := formA_len (s := qs) (by omega)
  have hlc := lim_cases M (formA qs)
  have hva := vo_form (fs := fs) (t := t) (body := body) (M := M)
  have hvb := fun h E h2 h3 => vo_body (fs := fs) (t := t) (body := body) (M := M) h (E := E) h2 h3
  have hvc := vo_cook (fs := fs) (t := t) (body := body) (M := M)
  have hvd := vo_ok (fs := fs) (t := t) (body := body) (M := M)
  unfold LimRes at CF
  rw [show (pcs qs ⟨#[38]⟩).flatMap keepF = formA qs from rfl] at CF
  rw [← hqs] at hva hvb hvc hvd
  obtain ⟨F, hF⟩ : ∃ F, F = formA qs := ⟨_, rfl⟩
  rw [← hF] at CF hFl hlc hva hvb hvc hvd
  have hBl := bodyR_len (ct := getL fs ctB) (body := body) (most := M - F.length) hbz
  have CB := fun w' (h : Rq w m t A cap fs body w') => body_any m t A cap fs body (M - F.length) mx w' hbz ⟨h.fds.1.more h.be.size, h.fds.2⟩ hfl (HM.out w' h.be)
  unfold PairRes at CB
  obtain ⟨Bd, hBd⟩ : ∃ Bd, Bd = bodyR (getL fs ctB) body (M - F.length) := ⟨_, rfl⟩
  rw [← hBd] at CB hvb hvc hvd hBl
  have CG := fun w' (h : Rq w m t A cap fs body w') => get_any m t ckB fs A cap w.heap.size w' (by decide) h.fds hfl h.be.size
  have hgs := Nat.le_trans (getL_sum ckB fs) hsv
  obtain ⟨G, hG⟩ : ∃ G, G = getL fs ckB := ⟨_, rfl⟩
  rw [← hG] at CG hgs hvc hvd
  have CC := fun Ag cg w' (h : StR w' w'.heap.size Ag cg G) (hb : Below w.heap.size w w') => cookies_any G Ag cg M mx w' h (HM.out w' hb)
  have hcc := lim_cases M (G.flatMap cookV)
  unfold LimRes at CC
  obtain ⟨K, hK⟩ : ∃ K, K = G.flatMap cookV := ⟨_, rfl⟩
  rw [← hK] at hcc hvc hvd
  simp only [← hK] at CC
  obtain ⟨W, hW⟩ : ∃ W, w.alloc (.cells #[.string m, .string t, .slice A fs.length cap, .string body] 26) = W := ⟨_, rfl⟩
  have hQ : Rq w m t A cap fs body W := by rw [← hW]; exact Rq.start hf
  have HQ := Lib.hid hQ
  obtain ⟨r0, r1, r2, r3⟩ := hQ.facts
  unfold VoRes
  obtain ⟨RR, hRR⟩ : ∃ RR, RR = argsR fs t body M := ⟨_, rfl⟩
  rw [← hRR] at hva hvb hvc hvd ⊢
  obtain ⟨bl, be⟩ := Bd
  dsimp only at CB hvb hvc hvd hBl
  have w2 : IntKind.i64.wrap (M - (F.length : Int)) = M - (F.length : Int) := IntWalk.i64_in _ (by omega)
  have HVA := Lib.hid hva
  have HVB := Lib.hid hvb
  have HVC := Lib.hid hvc
  have HVD := Lib.hid hvd
  have HLC := Lib.hid hlc
  have HCC := Lib.hid hcc
  have CF := Lib.hid CF
  have CB := Lib.hid CB
  have CG := Lib.hid CG
  have CC := Lib.hid CC
  have HGS := Lib.hid hgs
  clear hva hvb hvc hvd hlc hcc hqs hF hBd hG hK hRR hQ hf hm hmb hgs
  go_enter Tryd.func6, Tryd.ntmps6
  go_wp2_with fail
  refine (CQ.out _ HQ.out.be).mono ?_
  rintro e w1 ⟨rfl, b1'⟩
  have HQ1 := Lib.hid (HQ.out.step b1')
  clear b1' hW r0 r1 r2 r3
  obtain ⟨r0, r1, r2, r3⟩ := HQ1.out.facts
  go_wp2_with fail
  refine (CF.out _ HQ1.out.be).mono ?_
  rintro e w2' ⟨v1, rfl, ho1, b2'⟩
  have HQ2 := Lib.hid (HQ1.out.step b2')
  have HO1 := Lib.hid (ho1.mono HQ1.out.be.size)
  clear b2' ho1 r0 r1 r2 r3
  obtain ⟨r0, r1, r2, r3⟩ := HQ2.out.facts
  rcases HLC.out with ⟨h1, h2⟩ | ⟨h1, h2, h3⟩
  · have HF := Lib.hid (HVA.out h1)
    rw [h1]
    clear h1 h2
    go_wp2_with fail
    go_ret3
    exact ⟨.slice none 0 0, .slice none 0 0, by rw [HF.out]; rfl, by rw [HF.out]; exact OP.nil _ _ _, by rw [HF.out]; exact OP.nil _ _ _, HQ2.out.be⟩
  · rw [h2] at HO1
    have HB := Lib.hid (HVB.out h1)
    have HC := Lib.hid (HVC.out h1)
    have HD := Lib.hid (HVD.out h1)
    obtain ⟨A1, c1, rfl⟩ := HO1.out.form
    rw [h1]
    clear h1 h2 h3
    go_wp2_with fail
    refine (CB.out _ HQ2.out).mono ?_
    rintro e w3 ⟨v3, rfl, ho3, b3⟩
    have HQ3 := Lib.hid (HQ2.out.step b3)
    have HO1b := Lib.hid (HO1.out.kept b3)
    have HO3 := Lib.hid (ho3.mono HQ2.out.be.size)
    clear b3 ho3 r0 r1 r2 r3
    obtain ⟨r0, r1, r2, r3⟩ := HQ3.out.facts
    by_cases he : be = 0
    · subst he
      have HC2 := Lib.hid (HC.out rfl)
      have HD2 := Lib.hid (HD.out rfl)
      go_wp2_with fail
      refine (CG.out _ HQ3.out).mono ?_
      rintro e w4 ⟨v4, rfl, ho4, b4⟩
      obtain ⟨Ag, cg, rfl⟩ := ho4.form
      have HQ4 := Lib.hid (HQ3.out.step b4)
      have HO1c := Lib.hid (HO1b.out.kept b4)
      have HO3c := Lib.hid (HO3.out.kept b4)
      have HST := Lib.hid (str_of_own ho4 HGS.out)
      have HL4 := Lib.hid (own_lt HO1c.out)
      clear b4 ho4 r0 r1 r2 r3
      go_wp2_with fail
      refine (CC.out _ _ _ HST.out HQ4.out.be).mono ?_
      rintro e w5 ⟨v5, rfl, ho5, b5⟩
      have HQ5 := Lib.hid (HQ4.out.step b5)
      have HO1d := Lib.hid (HO1c.out.kept b5)
      have HO3d := Lib.hid (HO3c.out.kept b5)
      have HO5 := Lib.hid ho5
      clear b5 ho5
      rcases HCC.out with ⟨h1, h2⟩ | ⟨h1, h2, h3⟩
      · have HF := Lib.hid (HC2.out h1)
        rw [h1]
        clear h1 h2
        go_wp2_with fail
        go_ret3
        exact ⟨.slice none 0 0, .slice none 0 0, by rw [HF.out]; rfl, by rw [HF.out]; exact OP.nil _ _ _, by rw [HF.out]; exact OP.nil _ _ _, HQ5.out.be⟩
      · have HF := Lib.hid (HD2.out h1)
        rw [h2] at HO5
        rw [h1]
        clear h1 h2 h3
        obtain ⟨A3, c3, rfl⟩ := HO3d.out.form
        have hbl2 : F.length + bl.length ≤ 1000000000 := by omega
        go_wp2_with (at_builtin; refine wpL_appPP infoArg Tryd.underlying28 rfl (.tmp 50) (.tmp 51) rfl HO1d.out rfl HO3d.out rfl hbl2 HQ5.out.be.size ?_; intro v6 w6 ho6 hg6 b6)
        have HO6 := Lib.hid ho6
        have HO56 := Lib.hid ((HO5.out.apart HL4.out hg6).mono HQ4.out.be.size)
        have HB6 := Lib.hid (HQ5.out.be.trans b6)
        clear ho6 hg6 b6
        go_wp2_with fail
        go_ret3
        exact ⟨v6, v5, by rw [HF.out]; rfl, by rw [HF.out]; exact HO6.out, by rw [HF.out]; exact HO56.out, HB6.out⟩
    · have HF := Lib.hid (HB.out be rfl he)
      have d0 : (be != 0) = true := bne_iff_ne.2 he
      clear he
      go_wp2_with fail
      go_ret3
      exact ⟨.slice none 0 0, .slice none 0 0, by rw [HF.out]; rfl, by rw [HF.out]; exact OP.nil _ _ _, by rw [HF.out]; exact OP.nil _ _ _, HQ3.out.be⟩
end
end Go.Proofs.YtaepbpdcfmklpaaDoor
