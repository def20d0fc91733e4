/- Walk: wickref.Values. (printed by gen_varf.py) -/
import Derived.Test.YthfolopnjmkllaaDoorVarE
import Derived.Deep.CutBlock
import Derived.Deep.RegionHeld3
namespace Go.Proofs.YthfolopnjmkllaaDoor
open Go.RowKit
set_option linter.unusedVariables false
set_option linter.unusedSimpArgs false

/-- all that a kind names, ahead of the picking -/
def allL (kind : Int) (mm t : ByteArray) (fs : List Fd) (body : ByteArray) (client : Nat) (score : Int) (l ck : List Fd) : List Fd :=
  if kind = 1 then oneL mm
  else if kind = 2 then oneL t
  else if kind = 3 then oneL (cutS t ⟨#[63]⟩).1
  else if kind = 4 then oneL (cutS t ⟨#[63]⟩).2.1
  else if kind = 5 then oneL body
  else if kind = 6 then l
  else if kind = 7 then l
  else if kind = 8 then fieldL fs
  else if kind = 9 then fieldL fs
  else if kind = 10 then ck
  else if kind = 11 then oneL (prA client)
  else if kind = 12 then oneL (scS score)
  else []
theorem ite_len {c : Prop} [Decidable c] {a b : List Fd} {N : Nat} (ha : a.length ≤ N) (hb : b.length ≤ N) : (if c then a else b).length ≤ N := by split <;> assumption
theorem allL_len {N : Nat} {kind : Int} {mm t : ByteArray} {fs : List Fd} {body : ByteArray} {client : Nat} {score : Int} {l ck : List Fd} (h0 : 1 ≤ N) (h1 : fs.length ≤ N) (h2 : l.length ≤ N) (h3 : ck.length ≤ N) : (allL kind mm t fs body client score l ck).length ≤ N := by
  have hf : (fieldL fs).length ≤ N := by unfold fieldL; rw [List.length_map]; exact h1
  have ho : ∀ s, (oneL s).length ≤ N := fun s => h0
  unfold allL
  exact ite_len (ho _) (ite_len (ho _) (ite_len (ho _) (ite_len (ho _) (ite_len (ho _) (ite_len h2 (ite_len h2 (ite_len hf (ite_len hf (ite_len h3 (ite_len (ho _) (ite_len (ho _) (Nat.zero_le _))))))))))))
/-- pairs in memory, of any size -/
def FdQ (w : World) (B : Nat) (A : Option Addr) (cap : Nat) (fs : List Fd) : Prop := Reads w B 2 A fs.length (fdFlat fs) ∧ fs.length ≤ cap ∧ cap ≤ 9223372036854775807
section
variable {w w' : World} {B : Nat} {A : Option Addr} {cap : Nat} {fs : List Fd}
theorem FdR.q (h : FdR w B A cap fs) : FdQ w B A cap fs := ⟨h.1, h.2.1, h.2.2.1⟩
theorem FdQ.below (h : FdQ w B A cap fs) (hb : Below B w w') : FdQ w' B A cap fs := ⟨h.1.keep fun _ hp => hb.cell hp, h.2⟩
theorem FdQ.mono {B' : Nat} (h : FdQ w B A cap fs) (hB : B ≤ B') : FdQ w B' A cap fs := by
  refine ⟨⟨h.1.1, fun hn => ?_⟩, h.2⟩
  obtain ⟨ad, e, hb, hc⟩ := h.1.2 hn
  exact ⟨ad, e, Nat.lt_of_lt_of_le hb hB, hc⟩
theorem FdQ.cells (h : FdQ w B A cap fs) {k : Nat} (hk : k < fs.length) : ∃ ad, A = some ad ∧ ad.block < B ∧ w.cell? (ad.add (k * 2)) = some (.string fs[k].n) ∧ w.cell? ⟨(ad.add (k * 2)).block, (ad.add (k * 2)).off + 1, none⟩ = some (.string fs[k].v) := by
  obtain ⟨ad, e, hb, hc⟩ := h.1.2 (by omega)
  have h0 := fdFlat_get (List.getElem?_eq_getElem hk) (j := 0) (by omega)
  have h1 := fdFlat_get (List.getElem?_eq_getElem hk) (j := 1) (by omega)
  refine ⟨ad, e, hb, hc _ _ h0, ?_⟩
  show w.cell? ((ad.add (k * 2)).add 1) = _
  rw [add_of_add]; exact hc _ _ h1
theorem OP.fdQ {t : TypeId} {c : Nat} (h : OP t w B (.slice A fs.length c) fs) : FdQ w w.heap.size A c fs := by
  obtain ⟨A', c', e, h1, h2⟩ := h.formC
  injection e with e1 e2 e3
  subst e3
  exact ⟨h.reads, h1, h2⟩
end
/-- boxes and the cell -/
structure Vw (w : World) (kind mode : Int) (name mm t : ByteArray) (A : Option Addr) (cap n : Nat) (body : ByteArray) (v : Value) (G : List Fd) (wr : World) : Prop where
  vs : Vs w kind mode name mm t A cap n body wr
  cl : Cl wr (w.heap.size + 2) v G
/-- where the ways of the kinds meet -/
structure Vc (w : World) (kind mode : Int) (name mm t : ByteArray) (A : Option Addr) (cap n : Nat) (body : ByteArray) (Ax : Option Addr) (cx : Nat) (G : List Fd) (wr : World) : Prop where
  vs : Vs w kind mode name mm t A cap n body wr
  cb : Blk wr (w.heap.size + 2) 29 #[.slice Ax G.length cx]
  ho : FdQ wr wr.heap.size Ax cx G
section
variable {w wr wr' : World} {kind mode : Int} {name mm t : ByteArray} {A : Option Addr} {cap n : Nat} {body : ByteArray} {v v' : Value} {G G' : List Fd}
theorem Vw.step (h : Vw w kind mode name mm t A cap n body v G wr) (hb : Below wr.heap.size wr wr') : Vw w kind mode name mm t A cap n body v G wr' := ⟨h.vs.step hb, h.cl.step hb⟩
theorem Vw.added (h : Vw w kind mode name mm t A cap n body v G wr) (hc : Cl wr' (w.heap.size + 2) v' G') (hb : Below (w.heap.size + 2) wr wr') : Vw w kind mode name mm t A cap n body v' G' wr' :=
  ⟨⟨h.vs.vb.below hb (by omega), h.vs.qb.below hb (by omega), h.vs.be.trans (hb.mono (by omega))⟩, hc⟩
theorem Vw.cut (h : Vw w kind mode name mm t A cap n body v G wr) : ∃ Ax cx, Hid (Vc w kind mode name mm t A cap n body Ax cx G wr) := by
  obtain ⟨Ax, cx, e⟩ := h.cl.ho.form
  subst e
  exact ⟨Ax, cx, ⟨h.vs, h.cl.cb, h.cl.ho.fdQ⟩⟩
theorem Vw.put (h : Vw w kind mode name mm t A cap n body v G wr) {Al : Option Addr} {cl : Nat} {l : List Fd} (hq : FdQ w w.heap.size Al cl l) : ∃ Ax cx, Hid (Vc w kind mode name mm t A cap n body Ax cx l (wr.setCell ⟨w.heap.size + 2, 0, none⟩ (.slice Al l.length cl))) := by
  have hb : Below (w.heap.size + 2) wr (wr.setCell ⟨w.heap.size + 2, 0, none⟩ (.slice Al l.length cl)) := (Below.refl _ _).setCell (p := ⟨w.heap.size + 2, 0, none⟩) (Nat.le_refl _) _
  refine ⟨Al, cl, ⟨⟨h.vs.vb.below hb (by omega), h.vs.qb.below hb (by omega), h.vs.be.trans (hb.mono (by omega))⟩, h.cl.cb.set_ 0 _, ?_⟩⟩
  have h2 := h.vs.be.trans (hb.mono (by omega : w.heap.size ≤ w.heap.size + 2))
  exact (hq.below h2).mono h2.size
theorem Vw.facts (h : Vw w kind mode name mm t A cap n body v G wr) : wr.cell? ⟨w.heap.size + 1, 0, none⟩ = some (.string mm) ∧ wr.cell? ⟨w.heap.size + 1, 1, none⟩ = some (.string t) ∧ wr.cell? ⟨w.heap.size + 1, 2, none⟩ = some (.slice A n cap) ∧ wr.cell? ⟨w.heap.size + 1, 3, none⟩ = some (.string body) ∧ wr.cell? ⟨w.heap.size, 0, none⟩ = some (.int .i64 kind) :=
  ⟨h.vs.facts.2.2.2.1, h.vs.facts.2.2.2.2.1, h.vs.facts.2.2.2.2.2.1, h.vs.facts.2.2.2.2.2.2, h.vs.facts.1⟩
end
/-- the client's text, part by part -/
def pk (a : Nat) : Nat → ByteArray
  | 0 => ByteArray.empty
  | 1 => str (dd (a / 16777216 % 256) ++ [46])
  | 2 => str (dd (a / 16777216 % 256) ++ 46 :: (dd (a / 65536 % 256) ++ [46]))
  | 3 => str (dd (a / 16777216 % 256) ++ 46 :: (dd (a / 65536 % 256) ++ 46 :: (dd (a / 256 % 256) ++ [46])))
  | _ => prA a
theorem pk_size (a n : Nat) : (pk a n).size ≤ 100 := by
  have h1 := dd_len (a / 16777216 % 256); have h2 := dd_len (a / 65536 % 256); have h3 := dd_len (a / 256 % 256)
  have h4 := prA_size a
  match n with
  | 0 => show 0 ≤ 100; omega
  | 1 => show (dd (a / 16777216 % 256) ++ [46]).toArray.size ≤ 100; simp; omega
  | 2 => show (dd (a / 16777216 % 256) ++ 46 :: (dd (a / 65536 % 256) ++ [46])).toArray.size ≤ 100; simp; omega
  | 3 => show (dd (a / 16777216 % 256) ++ 46 :: (dd (a / 65536 % 256) ++ 46 :: (dd (a / 256 % 256) ++ [46]))).toArray.size ≤ 100; simp; omega
  | _ + 4 => show (prA a).size ≤ 100; omega
theorem pk1 (a : Nat) : pk a 0 ++ dcS (a / 16777216 % 256) ++ ⟨#[46]⟩ = pk a 1 := by
  apply ByteArray.ext; apply Array.ext'
  simp [pk, dcS, str]
theorem pk2 (a : Nat) : pk a 1 ++ dcS (a / 65536 % 256) ++ ⟨#[46]⟩ = pk a 2 := by
  apply ByteArray.ext; apply Array.ext'
  simp [pk, dcS, str]
theorem pk3 (a : Nat) : pk a 2 ++ dcS (a / 256 % 256) ++ ⟨#[46]⟩ = pk a 3 := by
  apply ByteArray.ext; apply Array.ext'
  simp [pk, dcS, str]
theorem pk4 (a : Nat) : pk a 3 ++ dcS (a % 256) = pk a 4 := by
  apply ByteArray.ext; apply Array.ext'
  simp [pk, dcS, str, prA, dl_prL, Lib.join, List.intercalate, List.intersperse]
theorem vkL_as {kind : Int} {name mm t : ByteArray} {fs : List Fd} {body : ByteArray} {client : Nat} {score : Int} {l ck : List Fd} : vkL kind name mm t fs body client score l ck = (if kind = 6 ∨ kind = 8 ∨ kind = 10 then onlyL name (allL kind mm t fs body client score l ck) else if kind = 7 ∨ kind = 9 then bareL (allL kind mm t fs body client score l ck) else allL kind mm t fs body client score l ck) := by
  by_cases k1 : kind = 1
  · subst k1; rfl
  by_cases k2 : kind = 2
  · subst k2; rfl
  by_cases k3 : kind = 3
  · subst k3; rfl
  by_cases k4 : kind = 4
  · subst k4; rfl
  by_cases k5 : kind = 5
  · subst k5; rfl
  by_cases k6 : kind = 6
  · subst k6; rfl
  by_cases k7 : kind = 7
  · subst k7; rfl
  by_cases k8 : kind = 8
  · subst k8; rfl
  by_cases k9 : kind = 9
  · subst k9; rfl
  by_cases k10 : kind = 10
  · subst k10; rfl
  by_cases k11 : kind = 11
  · subst k11; rfl
  by_cases k12 : kind = 12
  · subst k12; rfl
  unfold vkL allL
  simp [k1, k2, k3, k4, k5, k6, k7, k8, k9, k10, k11, k12]
set_option maxRecDepth 100000 in
set_option maxHeartbeats 16000000 in
theorem rvalues_any (kind mode : Int) (name mm t : ByteArray) (A : Option Addr) (cap : Nat) (fs : List Fd) (body : ByteArray) (client : Nat) (score : Int) (Al Ac : Option Addr) (capl capc : Nat) (l ck : List Fd) (w : World)
    (hmz : mm.size ≤ 1048576) (htz : t.size ≤ 1048576) (hbz : body.size ≤ 1048576) (hnz : name.size ≤ 1048576) (hf : FdR w w.heap.size A cap fs) (hfl : fs.length ≤ 1048577) (hl : FdR w w.heap.size Al capl l) (hll : l.length ≤ 1048577) (hc : FdR w w.heap.size Ac capc ck) (hcl : ck.length ≤ 1048577)
    (hcz : client < 4294967296) (hs0 : -9223372036854775808 ≤ score) (hs1 : score ≤ 9223372036854775807) (hT : TwN w) :
    Calls Tryd.prog 7 #[.agg #[.int .i64 kind, .int .i64 mode, .string name], .agg #[.string mm, .string t, .slice A fs.length cap, .string body], .int .u32 client, .int .i64 score, .slice Al l.length capl, .slice Ac ck.length capc] w (ValRes (vkL kind name mm t fs body client score l ck) w) := by
  obtain ⟨W, hW⟩ : ∃ W, ((w.alloc (.cells #[.int .i64 kind, .int .i64 mode, .string name] 31)).alloc (.cells #[.string mm, .string t, .slice A fs.length cap, .string body] 27)).alloc (.cells #[.slice none 0 0] 29) = W := ⟨_, rfl⟩
  have hV : Vw w kind mode name mm t A cap fs.length body (.slice none 0 0) [] W := by
    have h0 : Vs w kind mode name mm t A cap fs.length body _ := Vs.start
    rw [← hW]
    exact ⟨h0.step ((Below.refl _ _).alloc (Nat.le_refl _) _), ⟨by have := Blk.new ((w.alloc (.cells #[.int .i64 kind, .int .i64 mode, .string name] 31)).alloc (.cells #[.string mm, .string t, .slice A fs.length cap, .string body] 27)) 29 #[.slice none 0 0]; simpa using this, OP.nil _ _ _⟩⟩
  have CA := Lib.hid fun n x G v w' (h : Cl w' (w.heap.size + 2) v G) (hG : G.length ≤ 1048577) => vAdd_any (w.heap.size + 2) n x G v w' h hG
  have CP := Lib.hid fun w' => rvPath_any t w' htz
  have CQ := Lib.hid fun w' => rvQuery_any t w' htz
  have CI := Lib.hid fun w' (hb : Below w.heap.size w w') => itoaZ_any score w' hs0 hs1 (hT.below hb)
  have CN := Lib.hid fun n w' (hn : n < 1000) (hb : Below w.heap.size w w') => itoaN_any n w' hn (hT.below hb)
  have HQl := Lib.hid hl.q
  have HQc := Lib.hid hc.q
  have HF := Lib.hid hf
  obtain ⟨L, hL⟩ : ∃ L, L = vkL kind name mm t fs body client score l ck := ⟨_, rfl⟩
  rw [← hL]
  have hGl := allL_len (kind := kind) (mm := mm) (t := t) (body := body) (client := client) (score := score) (by omega : 1 ≤ 1048577) hfl hll hcl
  obtain ⟨G, hG⟩ : ∃ G, G = allL kind mm t fs body client score l ck := ⟨_, rfl⟩
  rw [← hG] at hGl
  have HP : Hid (L = (if kind = 6 ∨ kind = 8 ∨ kind = 10 then onlyL name G else if kind = 7 ∨ kind = 9 then bareL G else G)) := Lib.hid (by rw [hL, hG]; exact vkL_as)
  have HL := Lib.hid hG
  have HV := Lib.hid hV
  obtain ⟨x3, x4, x5, x6, x0⟩ := hV.facts
  have x7 : W.cell? ⟨w.heap.size + 2, 0, none⟩ = some (.slice none 0 0) := hV.cl.cb.cell 0
  have x8 : W.frozen? ⟨w.heap.size + 2, 0, none⟩ = false := hV.cl.cb.frozen 0
  clear hV hL hG hT hf hl hc
  go_enter Tryd.func7, Tryd.ntmps7
  go_upto_block 0 with fail
  rw [show w.heap.size + 1 + 1 = w.heap.size + 2 from rfl]
  go_cut [15, 16, 17] from 25 to 123 (fun _ _ _ wx => ∃ Ax cx, Hid (Vc w kind mode name mm t A cap fs.length body Ax cx G wx))
  case first =>
    by_cases k1 : kind = 1
    · subst k1
      obtain rfl : G = oneL mm := HL.out.trans rfl
      go_wp2_with fail
      refine (CA.out _ mm [] _ _ HV.out.cl (by simp)).mono ?_
      rintro e w9 ⟨rfl, v9, hc9, hb9⟩
      have HC := (HV.out.added hc9 hb9).cut
      clear hc9 hb9
      go_wp2_with fail
      go_meet
      exact HC
    · have f1 : (kind == 1) = false := by rw [beq_eq_false_iff_ne]; exact k1
      by_cases k2 : kind = 2
      · subst k2
        obtain rfl : G = oneL t := HL.out.trans rfl
        go_wp2_with fail
        refine (CA.out _ t [] _ _ HV.out.cl (by simp)).mono ?_
        rintro e w9 ⟨rfl, v9, hc9, hb9⟩
        have HC := (HV.out.added hc9 hb9).cut
        clear hc9 hb9
        go_wp2_with fail
        go_meet
        exact HC
      · have f2 : (kind == 2) = false := by rw [beq_eq_false_iff_ne]; exact k2
        by_cases k3 : kind = 3
        · subst k3
          obtain rfl : G = oneL (cutS t ⟨#[63]⟩).1 := HL.out.trans rfl
          go_wp2_with fail
          refine (CP.out _).mono ?_
          rintro e w2 ⟨rfl, b2⟩
          have HV2 := Lib.hid (HV.out.step (b2.mono (by first | exact Nat.le_refl _ | exact HV.out.vs.be.size)))
          clear b2
          go_wp2_with fail
          refine (CA.out _ _ [] _ _ HV2.out.cl (by simp)).mono ?_
          rintro e w9 ⟨rfl, v9, hc9, hb9⟩
          have HC := (HV2.out.added hc9 hb9).cut
          clear hc9 hb9
          go_wp2_with fail
          go_meet
          exact HC
        · have f3 : (kind == 3) = false := by rw [beq_eq_false_iff_ne]; exact k3
          by_cases k4 : kind = 4
          · subst k4
            obtain rfl : G = oneL (cutS t ⟨#[63]⟩).2.1 := HL.out.trans rfl
            go_wp2_with fail
            refine (CQ.out _).mono ?_
            rintro e w2 ⟨rfl, b2⟩
            have HV2 := Lib.hid (HV.out.step (b2.mono (by first | exact Nat.le_refl _ | exact HV.out.vs.be.size)))
            clear b2
            go_wp2_with fail
            refine (CA.out _ _ [] _ _ HV2.out.cl (by simp)).mono ?_
            rintro e w9 ⟨rfl, v9, hc9, hb9⟩
            have HC := (HV2.out.added hc9 hb9).cut
            clear hc9 hb9
            go_wp2_with fail
            go_meet
            exact HC
          · have f4 : (kind == 4) = false := by rw [beq_eq_false_iff_ne]; exact k4
            by_cases k5 : kind = 5
            · subst k5
              obtain rfl : G = oneL body := HL.out.trans rfl
              go_wp2_with fail
              refine (CA.out _ body [] _ _ HV.out.cl (by simp)).mono ?_
              rintro e w9 ⟨rfl, v9, hc9, hb9⟩
              have HC := (HV.out.added hc9 hb9).cut
              clear hc9 hb9
              go_wp2_with fail
              go_meet
              exact HC
            · have f5 : (kind == 5) = false := by rw [beq_eq_false_iff_ne]; exact k5
              by_cases k6 : kind = 6
              · subst k6
                obtain rfl : G = l := HL.out.trans rfl
                have HC := HV.out.put HQl.out
                go_wp2_with fail
                go_meet
                exact HC
              · have f6 : (kind == 6) = false := by rw [beq_eq_false_iff_ne]; exact k6
                by_cases k7 : kind = 7
                · subst k7
                  obtain rfl : G = l := HL.out.trans rfl
                  have HC := HV.out.put HQl.out
                  go_wp2_with fail
                  go_meet
                  exact HC
                · have f7 : (kind == 7) = false := by rw [beq_eq_false_iff_ne]; exact k7
                  by_cases k8 : kind = 8
                  · subst k8
                    obtain rfl : G = fieldL fs := HL.out.trans rfl
                    go_wp2_with fail
                    go_loopw [17] (fun i wr => ∃ (k : Nat) (v : Value), k ≤ fs.length ∧ i = .int .i64 k ∧ Hid (Vw w 8 mode name mm t A cap fs.length body v (fieldL (fs.take k)) wr)) (fun i _ => fs.length - (intOf i).toNat)
                    case atStart => exact ⟨0, _, by omega, rfl, HV⟩
                    case round =>
                      obtain ⟨k, v, hk, rfl, HVr⟩ := hrel
                      obtain ⟨y3, y4, y5, y6, y0⟩ := HVr.out.facts
                      by_cases hlt : k < fs.length
                      · obtain ⟨ad, rfl, hab, z0, z1, s0, s1⟩ := fd_cells (HF.out.below HVr.out.vs.be) hlt
                        have HFL := Lib.hid (fieldL_take hlt)
                        have hgl : (fieldL (fs.take k)).length ≤ 1048577 := by unfold fieldL; rw [List.length_map, List.length_take]; omega
                        obtain ⟨T, hT⟩ : ∃ T, T = fieldL (fs.take k) := ⟨_, rfl⟩
                        rw [← hT] at hgl HVr HFL
                        obtain ⟨f, hfe⟩ : ∃ f, f = fs[k] := ⟨_, rfl⟩
                        rw [← hfe] at z0 z1 s0 s1 HFL
                        have hlo := fun w' => Low_any f.n w' (by omega)
                        obtain ⟨U, hU⟩ : ∃ U, U = str (f.n.data.toList.map lowB) := ⟨_, rfl⟩
                        rw [← hU] at hlo
                        have CL : Hid (∀ w', Vw w 8 mode name mm t (some ad) cap fs.length body v T w' → Calls Tryd.prog 25 #[.string f.n] w' fun e w'' => e = .returned (.string U) ∧ Vw w 8 mode name mm t (some ad) cap fs.length body v T w'') := Lib.hid fun w' h => (hlo w').mono fun e w'' h2 => ⟨h2.1, by obtain ⟨q, hq⟩ := h2.2; rw [hq]; exact h.step (below_drewN (Below.refl _ _) q)⟩
                        have HFL2 : Hid (fieldL (fs.take (k + 1)) = T ++ [⟨U, f.v⟩]) := Lib.hid (by rw [HFL.out, hU]; rfl)
                        have CA2 := Lib.hid fun w' (h : Vw w 8 mode name mm t (some ad) cap fs.length body v T w') => vAdd_any (w.heap.size + 2) U f.v T v w' h.cl hgl
                        have hvd := HVr.out.step (below_drewN (Below.refl _ _) 1 : Below wr.heap.size wr wr.drew)
                        have HS : Hid (∀ v' T' w', Vw w 8 mode name mm t (some ad) cap fs.length body v' T' w' → w'.cell? ⟨w.heap.size + 1, 2, none⟩ = some (.slice (some ad) fs.length cap) ∧ w'.cell? (ad.add (k * 2)) = some (.string f.n) ∧ w'.cell? ⟨(ad.add (k * 2)).block, (ad.add (k * 2)).off + 1, none⟩ = some (.string f.v)) := Lib.hid fun v' T' w' h => by
                          obtain ⟨ad', e', _, c0, c1, _, _⟩ := fd_cells (HF.out.below h.vs.be) hlt
                          cases e'
                          rw [← hfe] at c0 c1
                          exact ⟨h.facts.2.2.1, c0, c1⟩
                        clear hT hfe hU HFL hlo
                        go_wp2_with fail
                        go_region_held3 (fun w' => w'.cell? ⟨w.heap.size + 1, 2, none⟩ = some (.slice (some ad) fs.length cap) ∧ w'.cell? (ad.add (k * 2)) = some (.string f.n) ∧ w'.cell? ⟨(ad.add (k * 2)).block, (ad.add (k * 2)).off + 1, none⟩ = some (.string f.v)) (exact HS.out _ _ _ (by assumption))
                          (first
                            | (go_at_call 25; (refine (CL.out _ hvd).mono ?_); rintro e w' ⟨rfl, hvq⟩)
                            | (go_at_call 22; (refine (CA2.out _ hvq).mono ?_); rintro e w'' ⟨rfl, v9, hc9, hb9⟩; have hv9 := hvq.added hc9 hb9)
                            | fail)
                        have HV9 := Lib.hid hv9
                        clear hc9 hb9 hv9
                        go_wp2_with fail
                        go_roundw
                        case rel => exact ⟨k + 1, _, by omega, by go_num, by rw [HFL2.out]; exact HV9⟩
                        case measure => simp [intOf]; omega
                      · obtain rfl : k = fs.length := by omega
                        have HC := HVr.out.cut
                        rw [List.take_length] at HC
                        go_wp2_with fail
                        go_meet
                        exact HC
                  · have f8 : (kind == 8) = false := by rw [beq_eq_false_iff_ne]; exact k8
                    by_cases k9 : kind = 9
                    · subst k9
                      obtain rfl : G = fieldL fs := HL.out.trans rfl
                      go_wp2_with fail
                      go_loopw [17] (fun i wr => ∃ (k : Nat) (v : Value), k ≤ fs.length ∧ i = .int .i64 k ∧ Hid (Vw w 9 mode name mm t A cap fs.length body v (fieldL (fs.take k)) wr)) (fun i _ => fs.length - (intOf i).toNat)
                      case atStart => exact ⟨0, _, by omega, rfl, HV⟩
                      case round =>
                        obtain ⟨k, v, hk, rfl, HVr⟩ := hrel
                        obtain ⟨y3, y4, y5, y6, y0⟩ := HVr.out.facts
                        by_cases hlt : k < fs.length
                        · obtain ⟨ad, rfl, hab, z0, z1, s0, s1⟩ := fd_cells (HF.out.below HVr.out.vs.be) hlt
                          have HFL := Lib.hid (fieldL_take hlt)
                          have hgl : (fieldL (fs.take k)).length ≤ 1048577 := by unfold fieldL; rw [List.length_map, List.length_take]; omega
                          obtain ⟨T, hT⟩ : ∃ T, T = fieldL (fs.take k) := ⟨_, rfl⟩
                          rw [← hT] at hgl HVr HFL
                          obtain ⟨f, hfe⟩ : ∃ f, f = fs[k] := ⟨_, rfl⟩
                          rw [← hfe] at z0 z1 s0 s1 HFL
                          have hlo := fun w' => Low_any f.n w' (by omega)
                          obtain ⟨U, hU⟩ : ∃ U, U = str (f.n.data.toList.map lowB) := ⟨_, rfl⟩
                          rw [← hU] at hlo
                          have CL : Hid (∀ w', Vw w 9 mode name mm t (some ad) cap fs.length body v T w' → Calls Tryd.prog 25 #[.string f.n] w' fun e w'' => e = .returned (.string U) ∧ Vw w 9 mode name mm t (some ad) cap fs.length body v T w'') := Lib.hid fun w' h => (hlo w').mono fun e w'' h2 => ⟨h2.1, by obtain ⟨q, hq⟩ := h2.2; rw [hq]; exact h.step (below_drewN (Below.refl _ _) q)⟩
                          have HFL2 : Hid (fieldL (fs.take (k + 1)) = T ++ [⟨U, f.v⟩]) := Lib.hid (by rw [HFL.out, hU]; rfl)
                          have CA2 := Lib.hid fun w' (h : Vw w 9 mode name mm t (some ad) cap fs.length body v T w') => vAdd_any (w.heap.size + 2) U f.v T v w' h.cl hgl
                          have hvd := HVr.out.step (below_drewN (Below.refl _ _) 1 : Below wr.heap.size wr wr.drew)
                          have HS : Hid (∀ v' T' w', Vw w 9 mode name mm t (some ad) cap fs.length body v' T' w' → w'.cell? ⟨w.heap.size + 1, 2, none⟩ = some (.slice (some ad) fs.length cap) ∧ w'.cell? (ad.add (k * 2)) = some (.string f.n) ∧ w'.cell? ⟨(ad.add (k * 2)).block, (ad.add (k * 2)).off + 1, none⟩ = some (.string f.v)) := Lib.hid fun v' T' w' h => by
                            obtain ⟨ad', e', _, c0, c1, _, _⟩ := fd_cells (HF.out.below h.vs.be) hlt
                            cases e'
                            rw [← hfe] at c0 c1
                            exact ⟨h.facts.2.2.1, c0, c1⟩
                          clear hT hfe hU HFL hlo
                          go_wp2_with fail
                          go_region_held3 (fun w' => w'.cell? ⟨w.heap.size + 1, 2, none⟩ = some (.slice (some ad) fs.length cap) ∧ w'.cell? (ad.add (k * 2)) = some (.string f.n) ∧ w'.cell? ⟨(ad.add (k * 2)).block, (ad.add (k * 2)).off + 1, none⟩ = some (.string f.v)) (exact HS.out _ _ _ (by assumption))
                            (first
                              | (go_at_call 25; (refine (CL.out _ hvd).mono ?_); rintro e w' ⟨rfl, hvq⟩)
                              | (go_at_call 22; (refine (CA2.out _ hvq).mono ?_); rintro e w'' ⟨rfl, v9, hc9, hb9⟩; have hv9 := hvq.added hc9 hb9)
                              | fail)
                          have HV9 := Lib.hid hv9
                          clear hc9 hb9 hv9
                          go_wp2_with fail
                          go_roundw
                          case rel => exact ⟨k + 1, _, by omega, by go_num, by rw [HFL2.out]; exact HV9⟩
                          case measure => simp [intOf]; omega
                        · obtain rfl : k = fs.length := by omega
                          have HC := HVr.out.cut
                          rw [List.take_length] at HC
                          go_wp2_with fail
                          go_meet
                          exact HC
                    · have f9 : (kind == 9) = false := by rw [beq_eq_false_iff_ne]; exact k9
                      by_cases k10 : kind = 10
                      · subst k10
                        obtain rfl : G = ck := HL.out.trans rfl
                        have HC := HV.out.put HQc.out
                        go_wp2_with fail
                        go_meet
                        exact HC
                      · have f10 : (kind == 10) = false := by rw [beq_eq_false_iff_ne]; exact k10
                        by_cases k11 : kind = 11
                        · subst k11
                          obtain rfl : G = oneL (prA client) := HL.out.trans rfl
                          go_wp2_with fail
                          go_loopw [15, 16] (fun s i wr => ((i = .int .i64 3 ∧ s = .string (pk client 0)) ∨ (i = .int .i64 2 ∧ s = .string (pk client 1)) ∨ (i = .int .i64 1 ∧ s = .string (pk client 2)) ∨ (i = .int .i64 0 ∧ s = .string (pk client 3)) ∨ (i = .int .i64 (-1) ∧ s = .string (pk client 4))) ∧ Hid (Vw w 11 mode name mm t A cap fs.length body (.slice none 0 0) [] wr)) (fun _ i _ => (intOf i + 1).toNat)
                          case atStart => exact ⟨.inl ⟨rfl, rfl⟩, HV⟩
                          case round =>
                            obtain ⟨⟨rfl, rfl⟩ | ⟨rfl, rfl⟩ | ⟨rfl, rfl⟩ | ⟨rfl, rfl⟩ | ⟨rfl, rfl⟩, HVr⟩ := hrel
                            · have e0 : Int.tmod ((client : Int) / 16777216) 256 = ((client / 16777216 % 256 : Nat) : Int) := by rw [Int.tmod_eq_emod_of_nonneg (by omega)]; omega
                              have s1 := pk_size client 0
                              have s2 := dcS_size (client / 16777216 % 256)
                              have e1 : Int.emod ((client : Int) / 16777216) 256 = ((client / 16777216 % 256 : Nat) : Int) := by show ((client : Int) / 16777216) % 256 = _; omega
                              go_wp2_with fail
                              refine (CN.out (client / 16777216 % 256) _ (by omega) HVr.out.vs.be).mono ?_
                              rintro e w2 ⟨rfl, b2⟩
                              have HV2 := Lib.hid (HVr.out.step (b2.mono (Nat.le_refl _)))
                              clear b2
                              go_wp2_with fail
                              skip
                              go_roundw
                              case rel => exact ⟨.inr (.inl ⟨rfl, by rw [← pk1]⟩), HV2⟩
                              case measure => decide
                            · have e0 : Int.tmod ((client : Int) / 65536) 256 = ((client / 65536 % 256 : Nat) : Int) := by rw [Int.tmod_eq_emod_of_nonneg (by omega)]; omega
                              have s1 := pk_size client 1
                              have s2 := dcS_size (client / 65536 % 256)
                              have e1 : Int.emod ((client : Int) / 65536) 256 = ((client / 65536 % 256 : Nat) : Int) := by show ((client : Int) / 65536) % 256 = _; omega
                              go_wp2_with fail
                              refine (CN.out (client / 65536 % 256) _ (by omega) HVr.out.vs.be).mono ?_
                              rintro e w2 ⟨rfl, b2⟩
                              have HV2 := Lib.hid (HVr.out.step (b2.mono (Nat.le_refl _)))
                              clear b2
                              go_wp2_with fail
                              skip
                              go_roundw
                              case rel => exact ⟨.inr (.inr (.inl ⟨rfl, by rw [← pk2]⟩)), HV2⟩
                              case measure => decide
                            · have e0 : Int.tmod ((client : Int) / 256) 256 = ((client / 256 % 256 : Nat) : Int) := by rw [Int.tmod_eq_emod_of_nonneg (by omega)]; omega
                              have s1 := pk_size client 2
                              have s2 := dcS_size (client / 256 % 256)
                              have e1 : Int.emod ((client : Int) / 256) 256 = ((client / 256 % 256 : Nat) : Int) := by show ((client : Int) / 256) % 256 = _; omega
                              go_wp2_with fail
                              refine (CN.out (client / 256 % 256) _ (by omega) HVr.out.vs.be).mono ?_
                              rintro e w2 ⟨rfl, b2⟩
                              have HV2 := Lib.hid (HVr.out.step (b2.mono (Nat.le_refl _)))
                              clear b2
                              go_wp2_with fail
                              skip
                              go_roundw
                              case rel => exact ⟨.inr (.inr (.inr (.inl ⟨rfl, by rw [← pk3]⟩))), HV2⟩
                              case measure => decide
                            · have e0 : Int.tmod ((client : Int)) 256 = ((client % 256 : Nat) : Int) := by rw [Int.tmod_eq_emod_of_nonneg (by omega)]; omega
                              have s1 := pk_size client 3
                              have s2 := dcS_size (client % 256)
                              have e1 : Int.emod ((client : Int)) 256 = ((client % 256 : Nat) : Int) := by show ((client : Int)) % 256 = _; omega
                              go_wp2_with fail
                              refine (CN.out (client % 256) _ (by omega) HVr.out.vs.be).mono ?_
                              rintro e w2 ⟨rfl, b2⟩
                              have HV2 := Lib.hid (HVr.out.step (b2.mono (Nat.le_refl _)))
                              clear b2
                              go_wp2_with fail
                              skip
                              go_roundw
                              case rel => exact ⟨.inr (.inr (.inr (.inr (⟨rfl, by rw [← pk4]⟩)))), HV2⟩
                              case measure => decide
                            · go_wp2_with fail
                              refine (CA.out _ (prA client) [] _ _ HVr.out.cl (by simp)).mono ?_
                              rintro e w9 ⟨rfl, v9, hc9, hb9⟩
                              have HC := (HVr.out.added hc9 hb9).cut
                              clear hc9 hb9
                              go_wp2_with fail
                              go_meet
                              exact HC
                        · have f11 : (kind == 11) = false := by rw [beq_eq_false_iff_ne]; exact k11
                          by_cases k12 : kind = 12
                          · subst k12
                            obtain rfl : G = oneL (scS score) := HL.out.trans rfl
                            go_wp2_with fail
                            refine (CI.out _ HV.out.vs.be).mono ?_
                            rintro e w2 ⟨rfl, b2⟩
                            have HV2 := Lib.hid (HV.out.step (b2.mono (by first | exact Nat.le_refl _ | exact HV.out.vs.be.size)))
                            clear b2
                            go_wp2_with fail
                            refine (CA.out _ _ [] _ _ HV2.out.cl (by simp)).mono ?_
                            rintro e w9 ⟨rfl, v9, hc9, hb9⟩
                            have HC := (HV2.out.added hc9 hb9).cut
                            clear hc9 hb9
                            go_wp2_with fail
                            go_meet
                            exact HC
                          · have f12 : (kind == 12) = false := by rw [beq_eq_false_iff_ne]; exact k12
                            have HG : Hid (G = []) := Lib.hid (by rw [HL.out]; unfold allL; rw [if_neg k1, if_neg k2, if_neg k3, if_neg k4, if_neg k5, if_neg k6, if_neg k7, if_neg k8, if_neg k9, if_neg k10, if_neg k11, if_neg k12])
                            have HC : ∃ Ax cx, Hid (Vc w kind mode name mm t A cap fs.length body Ax cx G W) := by rw [HG.out]; exact HV.out.cut
                            go_wp2_with fail
                            go_meet
                            exact HC
  case rest =>
    obtain ⟨Ax, cx, HC⟩ := hcut
    have hbe := HC.out.vs.be.size
    by_cases k6 : kind = 6
    · subst k6
      replace HP : Hid (L = onlyL name G) := Lib.hid (HP.out.trans rfl)
      go_wp2_with fail
      go_loopw [18, 19] (fun v i wr => ∃ k : Nat, k ≤ G.length ∧ i = .int .i64 k ∧ OP 34 wr wc.heap.size v (onlyL name (G.take k)) ∧ Below wc.heap.size wc wr) (fun _ i _ => G.length - (intOf i).toNat)
      case atStart => exact ⟨0, by omega, rfl, OP.nil _ _ _, Below.refl _ _⟩
      case round =>
        obtain ⟨k, hk, rfl, ho, hb⟩ := hrel
        obtain ⟨A5, c5, rfl⟩ := ho.form
        have HO := Lib.hid ho
        have HB := Lib.hid hb
        have hvs := HC.out.vs.step hb
        have q0 : wr.cell? ⟨w.heap.size, 0, none⟩ = some (.int .i64 6) := hvs.vb.cell 0
        have q2 : wr.cell? ⟨w.heap.size, 2, none⟩ = some (.string name) := hvs.vb.cell 2
        have q3 : wr.cell? ⟨w.heap.size + 2, 0, none⟩ = some (.slice Ax G.length cx) := (HC.out.cb.below hb HC.out.cb.lt).cell 0
        by_cases hlt : k < G.length
        · obtain ⟨ad, rfl, hab, x0, x1⟩ := (HC.out.ho.below hb).cells hlt
          have HY : Hid (onlyB name G[k] = true → onlyL name (G.take (k + 1)) = onlyL name (G.take k) ++ [G[k]]) := Lib.hid (onlyL_yes hlt)
          have HN : Hid (onlyB name G[k] = false → onlyL name (G.take (k + 1)) = onlyL name (G.take k)) := Lib.hid (onlyL_no hlt)
          have hgl : (onlyL name (G.take k)).length ≤ 1048577 := Nat.le_trans (onlyL_le _ _) (by rw [List.length_take]; omega)
          obtain ⟨T, hT⟩ : ∃ T, T = (onlyL name (G.take k)) := ⟨_, rfl⟩
          rw [← hT] at HO hgl HY HN ⊢
          obtain ⟨f, hfe⟩ : ∃ f, f = G[k] := ⟨_, rfl⟩
          rw [← hfe] at x0 x1 HY HN
          have hal := (Below.refl wr.heap.size wr).alloc (Nat.le_refl _) (.cells #[.string f.n, .string f.v] 34)
          have HO2 := Lib.hid (HO.out.kept hal)
          have HB2 := Lib.hid (HB.out.trans (hal.mono HB.out.size))
          have hk2 := Blk.new wr 34 #[.string f.n, .string f.v]
          have hv2 := hvs.step hal
          have HAL := Lib.hid hal
          clear hT hfe hb ho hal hvs
          go_upto_region 41 with fail
          obtain ⟨V, hV⟩ : ∃ V, wr.alloc (.cells #[.string f.n, .string f.v] 34) = V := ⟨_, rfl⟩
          rw [hV] at HO2 HB2 hk2 hv2 HAL ⊢
          have p0 : V.cell? ⟨w.heap.size, 0, none⟩ = some (.int .i64 6) := hv2.vb.cell 0
          have p2 : V.cell? ⟨w.heap.size, 2, none⟩ = some (.string name) := hv2.vb.cell 2
          have y0 : V.cell? ⟨wr.heap.size, 0, none⟩ = some (.string f.n) := hk2.cell 0
          have y1 : V.cell? ⟨wr.heap.size, 1, none⟩ = some (.string f.v) := hk2.cell 1
          clear hV hk2 x0 x1
          by_cases h1 : name.toList = []
          · have e1 : name.toList.isEmpty = true := List.isEmpty_iff.2 h1
            have HL := Lib.hid (HY.out (by unfold onlyB; rw [e1]; rfl))
            go_wp2_with (at_builtin; refine wpL_appP infoArg Tryd.underlying29 rfl (.tmp 172) (.tmp 174) rfl HO2.out rfl f rfl rfl (by omega) HB2.out.size ?_; intro v5 w5 ho5 _ hb5)
            have HO5 : Hid (OP 34 w5 wc.heap.size v5 (onlyL name (G.take (k + 1)))) := Lib.hid (by rw [HL.out]; exact ho5)
            have HB5 := Lib.hid (HB2.out.trans hb5)
            clear ho5 hb5
            go_wp2_with fail
            go_roundw
            case rel => exact ⟨k + 1, by omega, by go_num, HO5.out, HB5.out⟩
            case measure => simp [intOf]; omega
          · have e1 : name.toList.isEmpty = false := by cases h : name.toList.isEmpty; rfl; exact absurd (List.isEmpty_iff.1 h) h1
            cases e3 : (f.n.toList == name.toList) with
            | true =>
              have HL := Lib.hid (HY.out (by unfold onlyB; rw [e3, Bool.or_true]))
              have e2 : (name.toList == f.n.toList) = true := by rw [BEq.comm]; exact e3
              go_wp2_with (at_builtin; refine wpL_appP infoArg Tryd.underlying29 rfl (.tmp 172) (.tmp 174) rfl HO2.out rfl f rfl rfl (by omega) HB2.out.size ?_; intro v5 w5 ho5 _ hb5)
              have HO5 : Hid (OP 34 w5 wc.heap.size v5 (onlyL name (G.take (k + 1)))) := Lib.hid (by rw [HL.out]; exact ho5)
              have HB5 := Lib.hid (HB2.out.trans hb5)
              clear ho5 hb5
              go_wp2_with fail
              go_roundw
              case rel => exact ⟨k + 1, by omega, by go_num, HO5.out, HB5.out⟩
              case measure => simp [intOf]; omega
            | false =>
              have HL := Lib.hid (HN.out (by unfold onlyB; rw [e1, e3]; rfl))
              have e2 : (name.toList == f.n.toList) = false := by rw [BEq.comm]; exact e3
              go_wp2_with fail
              go_roundw
              case rel => exact ⟨k + 1, by omega, by go_num, by rw [HL.out]; exact HO2.out, HB2.out⟩
              case measure => simp [intOf]; omega
        · obtain rfl : k = G.length := by omega
          have HO2 : Hid (OP 34 wr w.heap.size (.slice A5 ((onlyL name (G.take G.length))).length c5) L) := Lib.hid (by rw [HP.out]; have := HO.out.mono hbe; rw [List.take_length] at this ⊢; exact this)
          have HB2 := Lib.hid (HC.out.vs.be.trans (hb.mono hbe))
          clear hb ho hvs
          go_wp2_with fail
          go_ret
          exact ⟨_, rfl, HO2.out, HB2.out⟩
    · have f6 : (kind == 6) = false := by rw [beq_eq_false_iff_ne]; exact k6
      by_cases k8 : kind = 8
      · subst k8
        replace HP : Hid (L = onlyL name G) := Lib.hid (HP.out.trans rfl)
        go_wp2_with fail
        go_loopw [18, 19] (fun v i wr => ∃ k : Nat, k ≤ G.length ∧ i = .int .i64 k ∧ OP 34 wr wc.heap.size v (onlyL name (G.take k)) ∧ Below wc.heap.size wc wr) (fun _ i _ => G.length - (intOf i).toNat)
        case atStart => exact ⟨0, by omega, rfl, OP.nil _ _ _, Below.refl _ _⟩
        case round =>
          obtain ⟨k, hk, rfl, ho, hb⟩ := hrel
          obtain ⟨A5, c5, rfl⟩ := ho.form
          have HO := Lib.hid ho
          have HB := Lib.hid hb
          have hvs := HC.out.vs.step hb
          have q0 : wr.cell? ⟨w.heap.size, 0, none⟩ = some (.int .i64 8) := hvs.vb.cell 0
          have q2 : wr.cell? ⟨w.heap.size, 2, none⟩ = some (.string name) := hvs.vb.cell 2
          have q3 : wr.cell? ⟨w.heap.size + 2, 0, none⟩ = some (.slice Ax G.length cx) := (HC.out.cb.below hb HC.out.cb.lt).cell 0
          by_cases hlt : k < G.length
          · obtain ⟨ad, rfl, hab, x0, x1⟩ := (HC.out.ho.below hb).cells hlt
            have HY : Hid (onlyB name G[k] = true → onlyL name (G.take (k + 1)) = onlyL name (G.take k) ++ [G[k]]) := Lib.hid (onlyL_yes hlt)
            have HN : Hid (onlyB name G[k] = false → onlyL name (G.take (k + 1)) = onlyL name (G.take k)) := Lib.hid (onlyL_no hlt)
            have hgl : (onlyL name (G.take k)).length ≤ 1048577 := Nat.le_trans (onlyL_le _ _) (by rw [List.length_take]; omega)
            obtain ⟨T, hT⟩ : ∃ T, T = (onlyL name (G.take k)) := ⟨_, rfl⟩
            rw [← hT] at HO hgl HY HN ⊢
            obtain ⟨f, hfe⟩ : ∃ f, f = G[k] := ⟨_, rfl⟩
            rw [← hfe] at x0 x1 HY HN
            have hal := (Below.refl wr.heap.size wr).alloc (Nat.le_refl _) (.cells #[.string f.n, .string f.v] 34)
            have HO2 := Lib.hid (HO.out.kept hal)
            have HB2 := Lib.hid (HB.out.trans (hal.mono HB.out.size))
            have hk2 := Blk.new wr 34 #[.string f.n, .string f.v]
            have hv2 := hvs.step hal
            have HAL := Lib.hid hal
            clear hT hfe hb ho hal hvs
            go_upto_region 41 with fail
            obtain ⟨V, hV⟩ : ∃ V, wr.alloc (.cells #[.string f.n, .string f.v] 34) = V := ⟨_, rfl⟩
            rw [hV] at HO2 HB2 hk2 hv2 HAL ⊢
            have p0 : V.cell? ⟨w.heap.size, 0, none⟩ = some (.int .i64 8) := hv2.vb.cell 0
            have p2 : V.cell? ⟨w.heap.size, 2, none⟩ = some (.string name) := hv2.vb.cell 2
            have y0 : V.cell? ⟨wr.heap.size, 0, none⟩ = some (.string f.n) := hk2.cell 0
            have y1 : V.cell? ⟨wr.heap.size, 1, none⟩ = some (.string f.v) := hk2.cell 1
            clear hV hk2 x0 x1
            by_cases h1 : name.toList = []
            · have e1 : name.toList.isEmpty = true := List.isEmpty_iff.2 h1
              have HL := Lib.hid (HY.out (by unfold onlyB; rw [e1]; rfl))
              go_wp2_with (at_builtin; refine wpL_appP infoArg Tryd.underlying29 rfl (.tmp 172) (.tmp 174) rfl HO2.out rfl f rfl rfl (by omega) HB2.out.size ?_; intro v5 w5 ho5 _ hb5)
              have HO5 : Hid (OP 34 w5 wc.heap.size v5 (onlyL name (G.take (k + 1)))) := Lib.hid (by rw [HL.out]; exact ho5)
              have HB5 := Lib.hid (HB2.out.trans hb5)
              clear ho5 hb5
              go_wp2_with fail
              go_roundw
              case rel => exact ⟨k + 1, by omega, by go_num, HO5.out, HB5.out⟩
              case measure => simp [intOf]; omega
            · have e1 : name.toList.isEmpty = false := by cases h : name.toList.isEmpty; rfl; exact absurd (List.isEmpty_iff.1 h) h1
              cases e3 : (f.n.toList == name.toList) with
              | true =>
                have HL := Lib.hid (HY.out (by unfold onlyB; rw [e3, Bool.or_true]))
                have e2 : (name.toList == f.n.toList) = true := by rw [BEq.comm]; exact e3
                go_wp2_with (at_builtin; refine wpL_appP infoArg Tryd.underlying29 rfl (.tmp 172) (.tmp 174) rfl HO2.out rfl f rfl rfl (by omega) HB2.out.size ?_; intro v5 w5 ho5 _ hb5)
                have HO5 : Hid (OP 34 w5 wc.heap.size v5 (onlyL name (G.take (k + 1)))) := Lib.hid (by rw [HL.out]; exact ho5)
                have HB5 := Lib.hid (HB2.out.trans hb5)
                clear ho5 hb5
                go_wp2_with fail
                go_roundw
                case rel => exact ⟨k + 1, by omega, by go_num, HO5.out, HB5.out⟩
                case measure => simp [intOf]; omega
              | false =>
                have HL := Lib.hid (HN.out (by unfold onlyB; rw [e1, e3]; rfl))
                have e2 : (name.toList == f.n.toList) = false := by rw [BEq.comm]; exact e3
                go_wp2_with fail
                go_roundw
                case rel => exact ⟨k + 1, by omega, by go_num, by rw [HL.out]; exact HO2.out, HB2.out⟩
                case measure => simp [intOf]; omega
          · obtain rfl : k = G.length := by omega
            have HO2 : Hid (OP 34 wr w.heap.size (.slice A5 ((onlyL name (G.take G.length))).length c5) L) := Lib.hid (by rw [HP.out]; have := HO.out.mono hbe; rw [List.take_length] at this ⊢; exact this)
            have HB2 := Lib.hid (HC.out.vs.be.trans (hb.mono hbe))
            clear hb ho hvs
            go_wp2_with fail
            go_ret
            exact ⟨_, rfl, HO2.out, HB2.out⟩
      · have f8 : (kind == 8) = false := by rw [beq_eq_false_iff_ne]; exact k8
        by_cases k10 : kind = 10
        · subst k10
          replace HP : Hid (L = onlyL name G) := Lib.hid (HP.out.trans rfl)
          go_wp2_with fail
          go_loopw [18, 19] (fun v i wr => ∃ k : Nat, k ≤ G.length ∧ i = .int .i64 k ∧ OP 34 wr wc.heap.size v (onlyL name (G.take k)) ∧ Below wc.heap.size wc wr) (fun _ i _ => G.length - (intOf i).toNat)
          case atStart => exact ⟨0, by omega, rfl, OP.nil _ _ _, Below.refl _ _⟩
          case round =>
            obtain ⟨k, hk, rfl, ho, hb⟩ := hrel
            obtain ⟨A5, c5, rfl⟩ := ho.form
            have HO := Lib.hid ho
            have HB := Lib.hid hb
            have hvs := HC.out.vs.step hb
            have q0 : wr.cell? ⟨w.heap.size, 0, none⟩ = some (.int .i64 10) := hvs.vb.cell 0
            have q2 : wr.cell? ⟨w.heap.size, 2, none⟩ = some (.string name) := hvs.vb.cell 2
            have q3 : wr.cell? ⟨w.heap.size + 2, 0, none⟩ = some (.slice Ax G.length cx) := (HC.out.cb.below hb HC.out.cb.lt).cell 0
            by_cases hlt : k < G.length
            · obtain ⟨ad, rfl, hab, x0, x1⟩ := (HC.out.ho.below hb).cells hlt
              have HY : Hid (onlyB name G[k] = true → onlyL name (G.take (k + 1)) = onlyL name (G.take k) ++ [G[k]]) := Lib.hid (onlyL_yes hlt)
              have HN : Hid (onlyB name G[k] = false → onlyL name (G.take (k + 1)) = onlyL name (G.take k)) := Lib.hid (onlyL_no hlt)
              have hgl : (onlyL name (G.take k)).length ≤ 1048577 := Nat.le_trans (onlyL_le _ _) (by rw [List.length_take]; omega)
              obtain ⟨T, hT⟩ : ∃ T, T = (onlyL name (G.take k)) := ⟨_, rfl⟩
              rw [← hT] at HO hgl HY HN ⊢
              obtain ⟨f, hfe⟩ : ∃ f, f = G[k] := ⟨_, rfl⟩
              rw [← hfe] at x0 x1 HY HN
              have hal := (Below.refl wr.heap.size wr).alloc (Nat.le_refl _) (.cells #[.string f.n, .string f.v] 34)
              have HO2 := Lib.hid (HO.out.kept hal)
              have HB2 := Lib.hid (HB.out.trans (hal.mono HB.out.size))
              have hk2 := Blk.new wr 34 #[.string f.n, .string f.v]
              have hv2 := hvs.step hal
              have HAL := Lib.hid hal
              clear hT hfe hb ho hal hvs
              go_upto_region 41 with fail
              obtain ⟨V, hV⟩ : ∃ V, wr.alloc (.cells #[.string f.n, .string f.v] 34) = V := ⟨_, rfl⟩
              rw [hV] at HO2 HB2 hk2 hv2 HAL ⊢
              have p0 : V.cell? ⟨w.heap.size, 0, none⟩ = some (.int .i64 10) := hv2.vb.cell 0
              have p2 : V.cell? ⟨w.heap.size, 2, none⟩ = some (.string name) := hv2.vb.cell 2
              have y0 : V.cell? ⟨wr.heap.size, 0, none⟩ = some (.string f.n) := hk2.cell 0
              have y1 : V.cell? ⟨wr.heap.size, 1, none⟩ = some (.string f.v) := hk2.cell 1
              clear hV hk2 x0 x1
              by_cases h1 : name.toList = []
              · have e1 : name.toList.isEmpty = true := List.isEmpty_iff.2 h1
                have HL := Lib.hid (HY.out (by unfold onlyB; rw [e1]; rfl))
                go_wp2_with (at_builtin; refine wpL_appP infoArg Tryd.underlying29 rfl (.tmp 172) (.tmp 174) rfl HO2.out rfl f rfl rfl (by omega) HB2.out.size ?_; intro v5 w5 ho5 _ hb5)
                have HO5 : Hid (OP 34 w5 wc.heap.size v5 (onlyL name (G.take (k + 1)))) := Lib.hid (by rw [HL.out]; exact ho5)
                have HB5 := Lib.hid (HB2.out.trans hb5)
                clear ho5 hb5
                go_wp2_with fail
                go_roundw
                case rel => exact ⟨k + 1, by omega, by go_num, HO5.out, HB5.out⟩
                case measure => simp [intOf]; omega
              · have e1 : name.toList.isEmpty = false := by cases h : name.toList.isEmpty; rfl; exact absurd (List.isEmpty_iff.1 h) h1
                cases e3 : (f.n.toList == name.toList) with
                | true =>
                  have HL := Lib.hid (HY.out (by unfold onlyB; rw [e3, Bool.or_true]))
                  have e2 : (name.toList == f.n.toList) = true := by rw [BEq.comm]; exact e3
                  go_wp2_with (at_builtin; refine wpL_appP infoArg Tryd.underlying29 rfl (.tmp 172) (.tmp 174) rfl HO2.out rfl f rfl rfl (by omega) HB2.out.size ?_; intro v5 w5 ho5 _ hb5)
                  have HO5 : Hid (OP 34 w5 wc.heap.size v5 (onlyL name (G.take (k + 1)))) := Lib.hid (by rw [HL.out]; exact ho5)
                  have HB5 := Lib.hid (HB2.out.trans hb5)
                  clear ho5 hb5
                  go_wp2_with fail
                  go_roundw
                  case rel => exact ⟨k + 1, by omega, by go_num, HO5.out, HB5.out⟩
                  case measure => simp [intOf]; omega
                | false =>
                  have HL := Lib.hid (HN.out (by unfold onlyB; rw [e1, e3]; rfl))
                  have e2 : (name.toList == f.n.toList) = false := by rw [BEq.comm]; exact e3
                  go_wp2_with fail
                  go_roundw
                  case rel => exact ⟨k + 1, by omega, by go_num, by rw [HL.out]; exact HO2.out, HB2.out⟩
                  case measure => simp [intOf]; omega
            · obtain rfl : k = G.length := by omega
              have HO2 : Hid (OP 34 wr w.heap.size (.slice A5 ((onlyL name (G.take G.length))).length c5) L) := Lib.hid (by rw [HP.out]; have := HO.out.mono hbe; rw [List.take_length] at this ⊢; exact this)
              have HB2 := Lib.hid (HC.out.vs.be.trans (hb.mono hbe))
              clear hb ho hvs
              go_wp2_with fail
              go_ret
              exact ⟨_, rfl, HO2.out, HB2.out⟩
        · have f10 : (kind == 10) = false := by rw [beq_eq_false_iff_ne]; exact k10
          by_cases k7 : kind = 7
          · subst k7
            replace HP : Hid (L = bareL G) := Lib.hid (HP.out.trans rfl)
            go_wp2_with fail
            go_loopw [18, 19] (fun v i wr => ∃ k : Nat, k ≤ G.length ∧ i = .int .i64 k ∧ OP 34 wr wc.heap.size v (bareL (G.take k)) ∧ Below wc.heap.size wc wr) (fun _ i _ => G.length - (intOf i).toNat)
            case atStart => exact ⟨0, by omega, rfl, OP.nil _ _ _, Below.refl _ _⟩
            case round =>
              obtain ⟨k, hk, rfl, ho, hb⟩ := hrel
              obtain ⟨A5, c5, rfl⟩ := ho.form
              have HO := Lib.hid ho
              have HB := Lib.hid hb
              have hvs := HC.out.vs.step hb
              have q0 : wr.cell? ⟨w.heap.size, 0, none⟩ = some (.int .i64 7) := hvs.vb.cell 0
              have q2 : wr.cell? ⟨w.heap.size, 2, none⟩ = some (.string name) := hvs.vb.cell 2
              have q3 : wr.cell? ⟨w.heap.size + 2, 0, none⟩ = some (.slice Ax G.length cx) := (HC.out.cb.below hb HC.out.cb.lt).cell 0
              by_cases hlt : k < G.length
              · obtain ⟨ad, rfl, hab, x0, x1⟩ := (HC.out.ho.below hb).cells hlt
                have HL : Hid (bareL (G.take (k + 1)) = bareL (G.take k) ++ [⟨G[k].n, G[k].n⟩]) := Lib.hid (bareL_take hlt)
                have hgl : (bareL (G.take k)).length ≤ 1048577 := by unfold bareL; rw [List.length_map, List.length_take]; omega
                obtain ⟨T, hT⟩ : ∃ T, T = (bareL (G.take k)) := ⟨_, rfl⟩
                rw [← hT] at HO hgl HL ⊢
                obtain ⟨f, hfe⟩ : ∃ f, f = G[k] := ⟨_, rfl⟩
                rw [← hfe] at x0 x1 HL
                have hal := (Below.refl wr.heap.size wr).alloc (Nat.le_refl _) (.cells #[.string f.n, .string f.v] 34)
                have HO2 := Lib.hid (HO.out.kept hal)
                have HB2 := Lib.hid (HB.out.trans (hal.mono HB.out.size))
                have hk2 := Blk.new wr 34 #[.string f.n, .string f.v]
                have hv2 := hvs.step hal
                have HAL := Lib.hid hal
                clear hT hfe hb ho hal hvs
                go_upto_region 41 with fail
                obtain ⟨V, hV⟩ : ∃ V, wr.alloc (.cells #[.string f.n, .string f.v] 34) = V := ⟨_, rfl⟩
                rw [hV] at HO2 HB2 hk2 hv2 HAL ⊢
                have p0 : V.cell? ⟨w.heap.size, 0, none⟩ = some (.int .i64 7) := hv2.vb.cell 0
                have p2 : V.cell? ⟨w.heap.size, 2, none⟩ = some (.string name) := hv2.vb.cell 2
                have y0 : V.cell? ⟨wr.heap.size, 0, none⟩ = some (.string f.n) := hk2.cell 0
                have y1 : V.cell? ⟨wr.heap.size, 1, none⟩ = some (.string f.v) := hk2.cell 1
                have yf : V.frozen? ⟨wr.heap.size, 1, none⟩ = false := hk2.frozen 1
                have hst : Below wr.heap.size V (V.setCell ⟨wr.heap.size, 1, none⟩ (.string f.n)) := (Below.refl _ _).setCell (p := ⟨wr.heap.size, 1, none⟩) (Nat.le_refl _) _
                have hvlt : wr.heap.size < V.heap.size := hk2.lt
                have hk3 := hk2.set_ 1 (.string f.n)
                have HO3 : Hid (OP 34 (V.setCell ⟨wr.heap.size, 1, none⟩ (.string f.n)) wc.heap.size (.slice A5 T.length c5) T) := Lib.hid (HO.out.kept (HAL.out.trans hst))
                have HB3 : Hid (Below wc.heap.size wc (V.setCell ⟨wr.heap.size, 1, none⟩ (.string f.n))) := Lib.hid (HB2.out.trans (hst.mono HB.out.size))
                have r0 : (V.setCell ⟨wr.heap.size, 1, none⟩ (.string f.n)).cell? ⟨w.heap.size, 0, none⟩ = some (.int .i64 7) := by rw [hst.cell (p := ⟨w.heap.size, 0, none⟩) (Nat.lt_of_lt_of_le HC.out.vs.vb.lt HB.out.size)]; exact p0
                have r2 : (V.setCell ⟨wr.heap.size, 1, none⟩ (.string f.n)).cell? ⟨w.heap.size, 2, none⟩ = some (.string name) := by rw [hst.cell (p := ⟨w.heap.size, 2, none⟩) (Nat.lt_of_lt_of_le HC.out.vs.vb.lt HB.out.size)]; exact p2
                clear hst
                go_upto_region 43 with fail
                obtain ⟨X, hX⟩ : ∃ X, V.setCell ⟨wr.heap.size, 1, none⟩ (.string f.n) = X := ⟨_, rfl⟩
                rw [hX] at HO3 HB3 r0 r2 hk3 ⊢
                have y3 : X.cell? ⟨wr.heap.size, 0, none⟩ = some (.string f.n) := hk3.cell 0
                have y4 : X.cell? ⟨wr.heap.size, 1, none⟩ = some (.string f.n) := hk3.cell 1
                clear hX hV hk3 hk2 x0 x1 y0 y1 yf p0 p2
                go_wp2_with (at_builtin; refine wpL_appP infoArg Tryd.underlying29 rfl (.tmp 172) (.tmp 174) rfl HO3.out rfl ⟨f.n, f.n⟩ rfl rfl (by omega) HB3.out.size ?_; intro v5 w5 ho5 _ hb5)
                have HO5 : Hid (OP 34 w5 wc.heap.size v5 (bareL (G.take (k + 1)))) := Lib.hid (by rw [HL.out]; exact ho5)
                have HB5 := Lib.hid (HB3.out.trans hb5)
                clear ho5 hb5
                go_wp2_with fail
                go_roundw
                case rel => exact ⟨k + 1, by omega, by go_num, HO5.out, HB5.out⟩
                case measure => simp [intOf]; omega
              · obtain rfl : k = G.length := by omega
                have HO2 : Hid (OP 34 wr w.heap.size (.slice A5 ((bareL (G.take G.length))).length c5) L) := Lib.hid (by rw [HP.out]; have := HO.out.mono hbe; rw [List.take_length] at this ⊢; exact this)
                have HB2 := Lib.hid (HC.out.vs.be.trans (hb.mono hbe))
                clear hb ho hvs
                go_wp2_with fail
                go_ret
                exact ⟨_, rfl, HO2.out, HB2.out⟩
          · have f7 : (kind == 7) = false := by rw [beq_eq_false_iff_ne]; exact k7
            by_cases k9 : kind = 9
            · subst k9
              replace HP : Hid (L = bareL G) := Lib.hid (HP.out.trans rfl)
              go_wp2_with fail
              go_loopw [18, 19] (fun v i wr => ∃ k : Nat, k ≤ G.length ∧ i = .int .i64 k ∧ OP 34 wr wc.heap.size v (bareL (G.take k)) ∧ Below wc.heap.size wc wr) (fun _ i _ => G.length - (intOf i).toNat)
              case atStart => exact ⟨0, by omega, rfl, OP.nil _ _ _, Below.refl _ _⟩
              case round =>
                obtain ⟨k, hk, rfl, ho, hb⟩ := hrel
                obtain ⟨A5, c5, rfl⟩ := ho.form
                have HO := Lib.hid ho
                have HB := Lib.hid hb
                have hvs := HC.out.vs.step hb
                have q0 : wr.cell? ⟨w.heap.size, 0, none⟩ = some (.int .i64 9) := hvs.vb.cell 0
                have q2 : wr.cell? ⟨w.heap.size, 2, none⟩ = some (.string name) := hvs.vb.cell 2
                have q3 : wr.cell? ⟨w.heap.size + 2, 0, none⟩ = some (.slice Ax G.length cx) := (HC.out.cb.below hb HC.out.cb.lt).cell 0
                by_cases hlt : k < G.length
                · obtain ⟨ad, rfl, hab, x0, x1⟩ := (HC.out.ho.below hb).cells hlt
                  have HL : Hid (bareL (G.take (k + 1)) = bareL (G.take k) ++ [⟨G[k].n, G[k].n⟩]) := Lib.hid (bareL_take hlt)
                  have hgl : (bareL (G.take k)).length ≤ 1048577 := by unfold bareL; rw [List.length_map, List.length_take]; omega
                  obtain ⟨T, hT⟩ : ∃ T, T = (bareL (G.take k)) := ⟨_, rfl⟩
                  rw [← hT] at HO hgl HL ⊢
                  obtain ⟨f, hfe⟩ : ∃ f, f = G[k] := ⟨_, rfl⟩
                  rw [← hfe] at x0 x1 HL
                  have hal := (Below.refl wr.heap.size wr).alloc (Nat.le_refl _) (.cells #[.string f.n, .string f.v] 34)
                  have HO2 := Lib.hid (HO.out.kept hal)
                  have HB2 := Lib.hid (HB.out.trans (hal.mono HB.out.size))
                  have hk2 := Blk.new wr 34 #[.string f.n, .string f.v]
                  have hv2 := hvs.step hal
                  have HAL := Lib.hid hal
                  clear hT hfe hb ho hal hvs
                  go_upto_region 41 with fail
                  obtain ⟨V, hV⟩ : ∃ V, wr.alloc (.cells #[.string f.n, .string f.v] 34) = V := ⟨_, rfl⟩
                  rw [hV] at HO2 HB2 hk2 hv2 HAL ⊢
                  have p0 : V.cell? ⟨w.heap.size, 0, none⟩ = some (.int .i64 9) := hv2.vb.cell 0
                  have p2 : V.cell? ⟨w.heap.size, 2, none⟩ = some (.string name) := hv2.vb.cell 2
                  have y0 : V.cell? ⟨wr.heap.size, 0, none⟩ = some (.string f.n) := hk2.cell 0
                  have y1 : V.cell? ⟨wr.heap.size, 1, none⟩ = some (.string f.v) := hk2.cell 1
                  have yf : V.frozen? ⟨wr.heap.size, 1, none⟩ = false := hk2.frozen 1
                  have hst : Below wr.heap.size V (V.setCell ⟨wr.heap.size, 1, none⟩ (.string f.n)) := (Below.refl _ _).setCell (p := ⟨wr.heap.size, 1, none⟩) (Nat.le_refl _) _
                  have hvlt : wr.heap.size < V.heap.size := hk2.lt
                  have hk3 := hk2.set_ 1 (.string f.n)
                  have HO3 : Hid (OP 34 (V.setCell ⟨wr.heap.size, 1, none⟩ (.string f.n)) wc.heap.size (.slice A5 T.length c5) T) := Lib.hid (HO.out.kept (HAL.out.trans hst))
                  have HB3 : Hid (Below wc.heap.size wc (V.setCell ⟨wr.heap.size, 1, none⟩ (.string f.n))) := Lib.hid (HB2.out.trans (hst.mono HB.out.size))
                  have r0 : (V.setCell ⟨wr.heap.size, 1, none⟩ (.string f.n)).cell? ⟨w.heap.size, 0, none⟩ = some (.int .i64 9) := by rw [hst.cell (p := ⟨w.heap.size, 0, none⟩) (Nat.lt_of_lt_of_le HC.out.vs.vb.lt HB.out.size)]; exact p0
                  have r2 : (V.setCell ⟨wr.heap.size, 1, none⟩ (.string f.n)).cell? ⟨w.heap.size, 2, none⟩ = some (.string name) := by rw [hst.cell (p := ⟨w.heap.size, 2, none⟩) (Nat.lt_of_lt_of_le HC.out.vs.vb.lt HB.out.size)]; exact p2
                  clear hst
                  go_upto_region 43 with fail
                  obtain ⟨X, hX⟩ : ∃ X, V.setCell ⟨wr.heap.size, 1, none⟩ (.string f.n) = X := ⟨_, rfl⟩
                  rw [hX] at HO3 HB3 r0 r2 hk3 ⊢
                  have y3 : X.cell? ⟨wr.heap.size, 0, none⟩ = some (.string f.n) := hk3.cell 0
                  have y4 : X.cell? ⟨wr.heap.size, 1, none⟩ = some (.string f.n) := hk3.cell 1
                  clear hX hV hk3 hk2 x0 x1 y0 y1 yf p0 p2
                  go_wp2_with (at_builtin; refine wpL_appP infoArg Tryd.underlying29 rfl (.tmp 172) (.tmp 174) rfl HO3.out rfl ⟨f.n, f.n⟩ rfl rfl (by omega) HB3.out.size ?_; intro v5 w5 ho5 _ hb5)
                  have HO5 : Hid (OP 34 w5 wc.heap.size v5 (bareL (G.take (k + 1)))) := Lib.hid (by rw [HL.out]; exact ho5)
                  have HB5 := Lib.hid (HB3.out.trans hb5)
                  clear ho5 hb5
                  go_wp2_with fail
                  go_roundw
                  case rel => exact ⟨k + 1, by omega, by go_num, HO5.out, HB5.out⟩
                  case measure => simp [intOf]; omega
                · obtain rfl : k = G.length := by omega
                  have HO2 : Hid (OP 34 wr w.heap.size (.slice A5 ((bareL (G.take G.length))).length c5) L) := Lib.hid (by rw [HP.out]; have := HO.out.mono hbe; rw [List.take_length] at this ⊢; exact this)
                  have HB2 := Lib.hid (HC.out.vs.be.trans (hb.mono hbe))
                  clear hb ho hvs
                  go_wp2_with fail
                  go_ret
                  exact ⟨_, rfl, HO2.out, HB2.out⟩
            · have f9 : (kind == 9) = false := by rw [beq_eq_false_iff_ne]; exact k9
              replace HP : Hid (L = G) := Lib.hid (by rw [HP.out, if_neg (by omega), if_neg (by omega)])
              go_wp2_with fail
              go_loopw [18, 19] (fun v i wr => ∃ k : Nat, k ≤ G.length ∧ i = .int .i64 k ∧ OP 34 wr wc.heap.size v (G.take k) ∧ Below wc.heap.size wc wr) (fun _ i _ => G.length - (intOf i).toNat)
              case atStart => exact ⟨0, by omega, rfl, OP.nil _ _ _, Below.refl _ _⟩
              case round =>
                obtain ⟨k, hk, rfl, ho, hb⟩ := hrel
                obtain ⟨A5, c5, rfl⟩ := ho.form
                have HO := Lib.hid ho
                have HB := Lib.hid hb
                have hvs := HC.out.vs.step hb
                have q0 : wr.cell? ⟨w.heap.size, 0, none⟩ = some (.int .i64 kind) := hvs.vb.cell 0
                have q2 : wr.cell? ⟨w.heap.size, 2, none⟩ = some (.string name) := hvs.vb.cell 2
                have q3 : wr.cell? ⟨w.heap.size + 2, 0, none⟩ = some (.slice Ax G.length cx) := (HC.out.cb.below hb HC.out.cb.lt).cell 0
                by_cases hlt : k < G.length
                · obtain ⟨ad, rfl, hab, x0, x1⟩ := (HC.out.ho.below hb).cells hlt
                  have HL : Hid (G.take (k + 1) = G.take k ++ [G[k]]) := Lib.hid (List.take_succ_eq_append_getElem hlt)
                  have hgl : (G.take k).length ≤ 1048577 := by rw [List.length_take]; omega
                  obtain ⟨T, hT⟩ : ∃ T, T = (G.take k) := ⟨_, rfl⟩
                  rw [← hT] at HO hgl HL ⊢
                  obtain ⟨f, hfe⟩ : ∃ f, f = G[k] := ⟨_, rfl⟩
                  rw [← hfe] at x0 x1 HL
                  have hal := (Below.refl wr.heap.size wr).alloc (Nat.le_refl _) (.cells #[.string f.n, .string f.v] 34)
                  have HO2 := Lib.hid (HO.out.kept hal)
                  have HB2 := Lib.hid (HB.out.trans (hal.mono HB.out.size))
                  have hk2 := Blk.new wr 34 #[.string f.n, .string f.v]
                  have hv2 := hvs.step hal
                  have HAL := Lib.hid hal
                  clear hT hfe hb ho hal hvs
                  go_upto_region 41 with fail
                  obtain ⟨V, hV⟩ : ∃ V, wr.alloc (.cells #[.string f.n, .string f.v] 34) = V := ⟨_, rfl⟩
                  rw [hV] at HO2 HB2 hk2 hv2 HAL ⊢
                  have p0 : V.cell? ⟨w.heap.size, 0, none⟩ = some (.int .i64 kind) := hv2.vb.cell 0
                  have p2 : V.cell? ⟨w.heap.size, 2, none⟩ = some (.string name) := hv2.vb.cell 2
                  have y0 : V.cell? ⟨wr.heap.size, 0, none⟩ = some (.string f.n) := hk2.cell 0
                  have y1 : V.cell? ⟨wr.heap.size, 1, none⟩ = some (.string f.v) := hk2.cell 1
                  clear hV hk2 x0 x1
                  go_wp2_with (at_builtin; refine wpL_appP infoArg Tryd.underlying29 rfl (.tmp 172) (.tmp 174) rfl HO2.out rfl f rfl rfl (by omega) HB2.out.size ?_; intro v5 w5 ho5 _ hb5)
                  have HO5 : Hid (OP 34 w5 wc.heap.size v5 (G.take (k + 1))) := Lib.hid (by rw [HL.out]; exact ho5)
                  have HB5 := Lib.hid (HB2.out.trans hb5)
                  clear ho5 hb5
                  go_wp2_with fail
                  go_roundw
                  case rel => exact ⟨k + 1, by omega, by go_num, HO5.out, HB5.out⟩
                  case measure => simp [intOf]; omega
                · obtain rfl : k = G.length := by omega
                  have HO2 : Hid (OP 34 wr w.heap.size (.slice A5 ((G.take G.length)).length c5) L) := Lib.hid (by rw [HP.out]; have := HO.out.mono hbe; rw [List.take_length] at this ⊢; exact this)
                  have HB2 := Lib.hid (HC.out.vs.be.trans (hb.mono hbe))
                  clear hb ho hvs
                  go_wp2_with fail
                  go_ret
                  exact ⟨_, rfl, HO2.out, HB2.out⟩
end Go.Proofs.YthfolopnjmkllaaDoor
