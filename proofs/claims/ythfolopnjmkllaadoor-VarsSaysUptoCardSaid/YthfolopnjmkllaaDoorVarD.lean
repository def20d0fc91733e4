/- Walk: vars.Values. (printed by gen_vard.py) -/
import Derived.Test.YthfolopnjmkllaaDoorVarC
import Derived.Test.YthfolopnjmkllaaDoorNetG
import Derived.Deep.RegionHeld3
namespace Go.Proofs.YthfolopnjmkllaaDoor
open Go.RowKit
set_option linter.unusedVariables false
set_option linter.unusedSimpArgs false

/-- the boxes of the variable and the request -/
structure Vs (w : World) (kind mode : Int) (name mm t : ByteArray) (A : Option Addr) (cap n : Nat) (body : ByteArray) (wr : World) : Prop where
  vb : Blk wr w.heap.size 31 #[.int .i64 kind, .int .i64 mode, .string name]
  qb : Blk wr (w.heap.size + 1) 27 #[.string mm, .string t, .slice A n cap, .string body]
  be : Below w.heap.size w wr
section
variable {w wr wr' : World} {kind mode : Int} {name mm t : ByteArray} {A : Option Addr} {cap n : Nat} {body : ByteArray}
theorem Vs.start : Vs w kind mode name mm t A cap n body ((w.alloc (.cells #[.int .i64 kind, .int .i64 mode, .string name] 31)).alloc (.cells #[.string mm, .string t, .slice A n cap, .string body] 27)) :=
  ⟨(Blk.new w _ _).alloc _, by have := Blk.new (w.alloc (.cells #[.int .i64 kind, .int .i64 mode, .string name] 31)) 27 #[.string mm, .string t, .slice A n cap, .string body]; simpa using this, ((Below.refl _ _).alloc (Nat.le_refl _) _).alloc (by simp) _⟩
theorem Vs.step (h : Vs w kind mode name mm t A cap n body wr) (hb : Below wr.heap.size wr wr') : Vs w kind mode name mm t A cap n body wr' := ⟨h.vb.below hb h.vb.lt, h.qb.below hb h.qb.lt, h.be.trans (hb.mono h.be.size)⟩
theorem Vs.facts (h : Vs w kind mode name mm t A cap n body wr) : wr.cell? ⟨w.heap.size, 0, none⟩ = some (.int .i64 kind) ∧ wr.cell? ⟨w.heap.size, 1, none⟩ = some (.int .i64 mode) ∧ wr.cell? ⟨w.heap.size, 2, none⟩ = some (.string name) ∧ wr.cell? ⟨w.heap.size + 1, 0, none⟩ = some (.string mm) ∧ wr.cell? ⟨w.heap.size + 1, 1, none⟩ = some (.string t) ∧ wr.cell? ⟨w.heap.size + 1, 2, none⟩ = some (.slice A n cap) ∧ wr.cell? ⟨w.heap.size + 1, 3, none⟩ = some (.string body) :=
  ⟨h.vb.cell 0, h.vb.cell 1, h.vb.cell 2, h.qb.cell 0, h.qb.cell 1, h.qb.cell 2, h.qb.cell 3⟩
end
def ValRes (L : List Fd) (w : World) (e : Ending) (w' : World) : Prop := ∃ v, e = .returned v ∧ OP 34 w' w.heap.size v L ∧ Below w.heap.size w w'
set_option maxRecDepth 100000 in
set_option maxHeartbeats 8000000 in
theorem values_any (kind mode : Int) (name mm t : ByteArray) (A : Option Addr) (cap : Nat) (fs : List Fd) (body : ByteArray) (client : Nat) (score : Int) (Al Ac : Option Addr) (capl capc : Nat) (l ck : List Fd) (m : Int) (w : World)
    (hmz : mm.size ≤ 1048576) (htz : t.size ≤ 1048576) (hbz : body.size ≤ 1048576) (hnz : name.size ≤ 1048576) (hf : FdR w w.heap.size A cap fs) (hfl : fs.length ≤ 1048577) (hl : FdR w w.heap.size Al capl l) (hll : l.length ≤ 1048577) (hc : FdR w w.heap.size Ac capc ck) (hcl : ck.length ≤ 1048577)
    (hcz : client < 4294967296) (hs0 : -9223372036854775808 ≤ score) (hs1 : score ≤ 9223372036854775807) (hm : w.cell? ⟨0, 0, none⟩ = some (.int .i64 m)) (hT : TwN w) :
    Calls Tryd.prog 6 #[.agg #[.int .i64 kind, .int .i64 mode, .string name], .agg #[.string mm, .string t, .slice A fs.length cap, .string body], .int .u32 client, .int .i64 score, .slice Al l.length capl, .slice Ac ck.length capc] w (ValRes (vkL kind name mm t fs body client score l ck) w) := by
  obtain ⟨W, hW⟩ : ∃ W, (w.alloc (.cells #[.int .i64 kind, .int .i64 mode, .string name] 31)).alloc (.cells #[.string mm, .string t, .slice A fs.length cap, .string body] 27) = W := ⟨_, rfl⟩
  have hV : Vs w kind mode name mm t A cap fs.length body W := by rw [← hW]; exact Vs.start
  have HM := Lib.hid fun w' (hb : Below w.heap.size w w') => (hb.cell (p := ⟨0, 0, none⟩) (World.block_lt_of_cell? _ _ hm)).trans hm
  have C1 := Lib.hid fun s w' => one_any s w'
  have CO := Lib.hid fun w' (hb : Below w.heap.size w w') => only_any l name Al capl w.heap.size w' (hl.below hb) hll hb.size hnz
  have CK := Lib.hid fun w' (hb : Below w.heap.size w w') => only_any ck name Ac capc w.heap.size w' (hc.below hb) hcl hb.size hnz
  have CB := Lib.hid fun w' (hb : Below w.heap.size w w') => bare_any l Al capl w.heap.size w' (hl.below hb) hll hb.size
  have CF := Lib.hid fun w' (hb : Below w.heap.size w w') => fields_any mm t fs A cap w.heap.size w' (hf.below hb) hfl hb.size
  have CP := Lib.hid fun w' (hb : Below w.heap.size w w') => vPath_any t w' htz m (HM.out w' hb)
  have CQ := Lib.hid fun w' (hb : Below w.heap.size w w') => vQuery_any t w' htz m (HM.out w' hb)
  have CN := Lib.hid fun w' (hb : Below w.heap.size w w') => netPrint_any client 32 w' hcz (hT.below hb)
  rw [show prR client 32 = (prA client, 0) from pr_full rfl (by rw [show mskB 32 = 32 from rfl]; exact Nat.mod_one _)] at CN
  have CI := Lib.hid fun w' (hb : Below w.heap.size w w') => itoaZ_any score w' hs0 hs1 (hT.below hb)
  have HFZ : Hid (∀ f ∈ fieldL fs, f.n.size ≤ 1048576 ∧ f.v.size ≤ 1048576) := Lib.hid fun f h => by
    unfold fieldL at h
    obtain ⟨x, hx, rfl⟩ := List.mem_map.1 h
    have := hf.2.2.2 x hx
    refine ⟨?_, this.2⟩
    show (List.map lowB x.n.data.toList).toArray.size ≤ 1048576
    rw [List.size_toArray, List.length_map, lst_len]; exact this.1
  obtain ⟨L, hL⟩ : ∃ L, L = vkL kind name mm t fs body client score l ck := ⟨_, rfl⟩
  rw [← hL]
  have HL := Lib.hid hL
  have HV := Lib.hid hV
  obtain ⟨x0, x1, x2, x3, x4, x5, x6⟩ := hV.facts
  clear hV hL hm hT hf hl hc
  by_cases k1 : kind = 1
  · subst k1
    have HL1 : Hid (L = oneL mm) := Lib.hid (by rw [HL.out]; rfl)
    go_enter Tryd.func6, Tryd.ntmps6
    go_wp2_with fail
    refine (C1.out _ _).mono ?_
    rintro e w1 ⟨v, rfl, ho, b1⟩
    have HO := Lib.hid (ho.mono HV.out.be.size)
    have HB := Lib.hid (HV.out.be.trans (b1.mono HV.out.be.size))
    clear ho b1
    go_wp2_with fail
    go_ret
    exact ⟨v, rfl, by rw [HL1.out]; exact HO.out, HB.out⟩
  · have f1 : (kind == 1) = false := by rw [beq_eq_false_iff_ne]; exact k1
    by_cases k2 : kind = 2
    · subst k2
      have HL1 : Hid (L = oneL t) := Lib.hid (by rw [HL.out]; rfl)
      go_enter Tryd.func6, Tryd.ntmps6
      go_wp2_with fail
      refine (C1.out _ _).mono ?_
      rintro e w1 ⟨v, rfl, ho, b1⟩
      have HO := Lib.hid (ho.mono HV.out.be.size)
      have HB := Lib.hid (HV.out.be.trans (b1.mono HV.out.be.size))
      clear ho b1
      go_wp2_with fail
      go_ret
      exact ⟨v, rfl, by rw [HL1.out]; exact HO.out, HB.out⟩
    · have f2 : (kind == 2) = false := by rw [beq_eq_false_iff_ne]; exact k2
      by_cases k3 : kind = 3
      · subst k3
        have HL1 : Hid (L = oneL (cutS t ⟨#[63]⟩).1) := Lib.hid (by rw [HL.out]; rfl)
        go_enter Tryd.func6, Tryd.ntmps6
        go_wp2_with fail
        refine (CP.out _ HV.out.be).mono ?_
        rintro e w2 ⟨rfl, b2⟩
        have HB2 := Lib.hid (HV.out.be.trans (b2.mono HV.out.be.size))
        clear b2
        go_wp2_with fail
        refine (C1.out _ _).mono ?_
        rintro e w1 ⟨v, rfl, ho, b1⟩
        have HO := Lib.hid (ho.mono HB2.out.size)
        have HB := Lib.hid (HB2.out.trans (b1.mono HB2.out.size))
        clear ho b1
        go_wp2_with fail
        go_ret
        exact ⟨v, rfl, by rw [HL1.out]; exact HO.out, HB.out⟩
      · have f3 : (kind == 3) = false := by rw [beq_eq_false_iff_ne]; exact k3
        by_cases k4 : kind = 4
        · subst k4
          have HL1 : Hid (L = oneL (cutS t ⟨#[63]⟩).2.1) := Lib.hid (by rw [HL.out]; rfl)
          go_enter Tryd.func6, Tryd.ntmps6
          go_wp2_with fail
          refine (CQ.out _ HV.out.be).mono ?_
          rintro e w2 ⟨rfl, b2⟩
          have HB2 := Lib.hid (HV.out.be.trans (b2.mono HV.out.be.size))
          clear b2
          go_wp2_with fail
          refine (C1.out _ _).mono ?_
          rintro e w1 ⟨v, rfl, ho, b1⟩
          have HO := Lib.hid (ho.mono HB2.out.size)
          have HB := Lib.hid (HB2.out.trans (b1.mono HB2.out.size))
          clear ho b1
          go_wp2_with fail
          go_ret
          exact ⟨v, rfl, by rw [HL1.out]; exact HO.out, HB.out⟩
        · have f4 : (kind == 4) = false := by rw [beq_eq_false_iff_ne]; exact k4
          by_cases k5 : kind = 5
          · subst k5
            have HL1 : Hid (L = oneL body) := Lib.hid (by rw [HL.out]; rfl)
            go_enter Tryd.func6, Tryd.ntmps6
            go_wp2_with fail
            refine (C1.out _ _).mono ?_
            rintro e w1 ⟨v, rfl, ho, b1⟩
            have HO := Lib.hid (ho.mono HV.out.be.size)
            have HB := Lib.hid (HV.out.be.trans (b1.mono HV.out.be.size))
            clear ho b1
            go_wp2_with fail
            go_ret
            exact ⟨v, rfl, by rw [HL1.out]; exact HO.out, HB.out⟩
          · have f5 : (kind == 5) = false := by rw [beq_eq_false_iff_ne]; exact k5
            by_cases k6 : kind = 6
            · subst k6
              have HL1 : Hid (L = onlyL name l) := Lib.hid (by rw [HL.out]; rfl)
              go_enter Tryd.func6, Tryd.ntmps6
              go_wp2_with fail
              refine (CO.out _ HV.out.be).mono ?_
              rintro e w1 ⟨v, rfl, ho, b1⟩
              have HO := Lib.hid (ho.mono HV.out.be.size)
              have HB := Lib.hid (HV.out.be.trans (b1.mono HV.out.be.size))
              clear ho b1
              go_wp2_with fail
              go_ret
              exact ⟨v, rfl, by rw [HL1.out]; exact HO.out, HB.out⟩
            · have f6 : (kind == 6) = false := by rw [beq_eq_false_iff_ne]; exact k6
              by_cases k7 : kind = 7
              · subst k7
                have HL1 : Hid (L = bareL l) := Lib.hid (by rw [HL.out]; rfl)
                go_enter Tryd.func6, Tryd.ntmps6
                go_wp2_with fail
                refine (CB.out _ HV.out.be).mono ?_
                rintro e w1 ⟨v, rfl, ho, b1⟩
                have HO := Lib.hid (ho.mono HV.out.be.size)
                have HB := Lib.hid (HV.out.be.trans (b1.mono HV.out.be.size))
                clear ho b1
                go_wp2_with fail
                go_ret
                exact ⟨v, rfl, by rw [HL1.out]; exact HO.out, HB.out⟩
              · have f7 : (kind == 7) = false := by rw [beq_eq_false_iff_ne]; exact k7
                by_cases k8 : kind = 8
                · subst k8
                  have HL1 : Hid (L = onlyL name (fieldL fs)) := Lib.hid (by rw [HL.out]; rfl)
                  have hVd := HV.out.step (below_drewN (Below.refl _ _) 1 : Below W.heap.size W W.drew)
                  have HS : Hid (∀ w', Vs w 8 mode name mm t A cap fs.length body w' → w'.cell? ⟨w.heap.size, 2, none⟩ = some (.string name) ∧ w'.cell? ⟨w.heap.size + 1, 0, none⟩ = some (.string mm) ∧ w'.cell? ⟨w.heap.size + 1, 1, none⟩ = some (.string t) ∧ w'.cell? ⟨w.heap.size + 1, 2, none⟩ = some (.slice A fs.length cap)) := Lib.hid fun w' h => ⟨h.facts.2.2.1, h.facts.2.2.2.1, h.facts.2.2.2.2.1, h.facts.2.2.2.2.2.1⟩
                  have CO8 := Lib.hid fun A2 c2 B2 w' (h : OP 34 w' B2 (.slice A2 (fieldL fs).length c2) (fieldL fs)) => only_any (fieldL fs) name A2 c2 w'.heap.size w' (h.fdR HFZ.out) (by unfold fieldL; rw [List.length_map]; exact hfl) (Nat.le_refl _) hnz
                  go_enter Tryd.func6, Tryd.ntmps6
                  go_wp2_with fail
                  go_region_held3 (fun w' => w'.cell? ⟨w.heap.size, 2, none⟩ = some (.string name) ∧ w'.cell? ⟨w.heap.size + 1, 0, none⟩ = some (.string mm) ∧ w'.cell? ⟨w.heap.size + 1, 1, none⟩ = some (.string t) ∧ w'.cell? ⟨w.heap.size + 1, 2, none⟩ = some (.slice A fs.length cap)) (exact HS.out _ (by assumption))
                    (first
                      | (go_at_call 19; refine (CF.out _ hVd.be).mono ?_; rintro e w' ⟨v', rfl, ho', hb'⟩; have hs' := hVd.step hb'; obtain ⟨A', c', rfl⟩ := ho'.form)
                      | (go_at_call 17; refine (CO8.out _ _ _ _ ho').mono ?_; rintro e w'' ⟨v, rfl, ho, b1⟩; have hs'' := hs'.step b1)
                      | fail)
                  have HO := Lib.hid (ho.mono hs'.be.size)
                  have HB := Lib.hid (hs'.be.trans (b1.mono hs'.be.size))
                  go_wp2_with fail
                  go_ret
                  exact ⟨v, rfl, by rw [HL1.out]; exact HO.out, HB.out⟩
                · have f8 : (kind == 8) = false := by rw [beq_eq_false_iff_ne]; exact k8
                  by_cases k9 : kind = 9
                  · subst k9
                    have HL1 : Hid (L = bareL (fieldL fs)) := Lib.hid (by rw [HL.out]; rfl)
                    go_enter Tryd.func6, Tryd.ntmps6
                    go_wp2_with fail
                    refine (CF.out _ HV.out.be).mono ?_
                    rintro e w2 ⟨v2, rfl, ho2, b2⟩
                    have HB2 := Lib.hid (HV.out.be.trans (b2.mono HV.out.be.size))
                    obtain ⟨A2, c2, rfl⟩ := ho2.form
                    have CB2 := bare_any (fieldL fs) A2 c2 w2.heap.size w2 (ho2.fdR HFZ.out) (by unfold fieldL; rw [List.length_map]; exact hfl) (Nat.le_refl _)
                    clear b2 ho2
                    go_wp2_with fail
                    refine (CB2).mono ?_
                    rintro e w1 ⟨v, rfl, ho, b1⟩
                    have HO := Lib.hid (ho.mono HB2.out.size)
                    have HB := Lib.hid (HB2.out.trans (b1.mono HB2.out.size))
                    clear ho b1
                    go_wp2_with fail
                    go_ret
                    exact ⟨v, rfl, by rw [HL1.out]; exact HO.out, HB.out⟩
                  · have f9 : (kind == 9) = false := by rw [beq_eq_false_iff_ne]; exact k9
                    by_cases k10 : kind = 10
                    · subst k10
                      have HL1 : Hid (L = onlyL name ck) := Lib.hid (by rw [HL.out]; rfl)
                      go_enter Tryd.func6, Tryd.ntmps6
                      go_wp2_with fail
                      refine (CK.out _ HV.out.be).mono ?_
                      rintro e w1 ⟨v, rfl, ho, b1⟩
                      have HO := Lib.hid (ho.mono HV.out.be.size)
                      have HB := Lib.hid (HV.out.be.trans (b1.mono HV.out.be.size))
                      clear ho b1
                      go_wp2_with fail
                      go_ret
                      exact ⟨v, rfl, by rw [HL1.out]; exact HO.out, HB.out⟩
                    · have f10 : (kind == 10) = false := by rw [beq_eq_false_iff_ne]; exact k10
                      by_cases k11 : kind = 11
                      · subst k11
                        have HL1 : Hid (L = oneL (prA client)) := Lib.hid (by rw [HL.out]; rfl)
                        go_enter Tryd.func6, Tryd.ntmps6
                        go_wp2_with fail
                        refine (CN.out _ HV.out.be).mono ?_
                        rintro e w2 ⟨rfl, b2⟩
                        have HB2 := Lib.hid (HV.out.be.trans (b2.mono HV.out.be.size))
                        clear b2
                        go_wp2_with fail
                        refine (C1.out _ _).mono ?_
                        rintro e w1 ⟨v, rfl, ho, b1⟩
                        have HO := Lib.hid (ho.mono HB2.out.size)
                        have HB := Lib.hid (HB2.out.trans (b1.mono HB2.out.size))
                        clear ho b1
                        go_wp2_with fail
                        go_ret
                        exact ⟨v, rfl, by rw [HL1.out]; exact HO.out, HB.out⟩
                      · have f11 : (kind == 11) = false := by rw [beq_eq_false_iff_ne]; exact k11
                        by_cases k12 : kind = 12
                        · subst k12
                          have HL1 : Hid (L = oneL (scS score)) := Lib.hid (by rw [HL.out]; rfl)
                          go_enter Tryd.func6, Tryd.ntmps6
                          go_wp2_with fail
                          refine (CI.out _ HV.out.be).mono ?_
                          rintro e w2 ⟨rfl, b2⟩
                          have HB2 := Lib.hid (HV.out.be.trans (b2.mono HV.out.be.size))
                          clear b2
                          go_wp2_with fail
                          refine (C1.out _ _).mono ?_
                          rintro e w1 ⟨v, rfl, ho, b1⟩
                          have HO := Lib.hid (ho.mono HB2.out.size)
                          have HB := Lib.hid (HB2.out.trans (b1.mono HB2.out.size))
                          clear ho b1
                          go_wp2_with fail
                          go_ret
                          exact ⟨v, rfl, by rw [HL1.out]; exact HO.out, HB.out⟩
                        · have f12 : (kind == 12) = false := by rw [beq_eq_false_iff_ne]; exact k12
                          have HL1 : Hid (L = []) := Lib.hid (by rw [HL.out]; unfold vkL; rw [if_neg k1, if_neg k2, if_neg k3, if_neg k4, if_neg k5, if_neg k6, if_neg k7, if_neg k8, if_neg k9, if_neg k10, if_neg k11, if_neg k12])
                          go_enter Tryd.func6, Tryd.ntmps6
                          go_wp2_with fail
                          go_ret
                          exact ⟨_, rfl, by rw [HL1.out]; exact OP.nil _ _ _, HV.out.be⟩
end Go.Proofs.YthfolopnjmkllaaDoor
