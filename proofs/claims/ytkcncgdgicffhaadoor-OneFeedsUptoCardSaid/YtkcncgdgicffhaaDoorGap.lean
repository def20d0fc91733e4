/- Walk: one.one. -/
import Derived.Test.YtkcncgdgicffhaaDoorGal
import Derived.Test.YtkcncgdgicffhaaDoorGam
import Derived.Test.YtkcncgdgicffhaaDoorGao
import Derived.Deep.RegionHeld3
import Derived.Test.YtkcncgdgicffhaaDoorShelf
namespace Go.Proofs.YtkcncgdgicffhaaDoor
open Go.RowKit
set_option linter.unusedVariables false
set_option linter.unusedSimpArgs false

/-- the boxes: the bounds, the result (still empty) -/
structure Qz (w wr : World) (H B A : Int) : Prop where
  bx : Blk wr w.heap.size 43 #[.int .i64 H, .int .i64 B, .int .i64 A]
  res : Blk wr (w.heap.size + 1) 36 #[.string { data := #[] }, .string { data := #[] }, .slice none 0 0, .string { data := #[] }]
  be : Below w.heap.size w wr
section
variable {w wr wr' : World} {H B A : Int}
theorem Qz.start : Qz w ((w.alloc (.cells #[.int .i64 H, .int .i64 B, .int .i64 A] 43)).alloc (.cells #[.string { data := #[] }, .string { data := #[] }, .slice none 0 0, .string { data := #[] }] 36)) H B A :=
  ⟨(Blk.new _ _ _).alloc _, by simpa using Blk.new (w.alloc (.cells #[.int .i64 H, .int .i64 B, .int .i64 A] 43)) 36 #[.string { data := #[] }, .string { data := #[] }, .slice none 0 0, .string { data := #[] }], ((Below.refl _ _).alloc (Nat.le_refl _) _).alloc (by simp) _⟩
theorem Qz.lt (h : Qz w wr H B A) : w.heap.size + 1 < wr.heap.size := h.res.lt
theorem Qz.step (h : Qz w wr H B A) (hb : Below wr.heap.size wr wr') : Qz w wr' H B A := ⟨h.bx.below hb h.bx.lt, h.res.below hb h.res.lt, h.be.trans (hb.mono h.be.size)⟩
theorem Qz.alloc (h : Qz w wr H B A) (o : Obj) : Qz w (wr.alloc o) H B A := h.step ((Below.refl _ _).alloc (Nat.le_refl _) _)
structure QzF (w wr : World) (H B A : Int) : Prop where
  b0 : wr.cell? ⟨w.heap.size, 0, none⟩ = some (.int .i64 H)
  b1 : wr.cell? ⟨w.heap.size, 1, none⟩ = some (.int .i64 B)
  r0 : wr.cell? ⟨w.heap.size + 1, 0, none⟩ = some (.string { data := #[] })
  r1 : wr.cell? ⟨w.heap.size + 1, 1, none⟩ = some (.string { data := #[] })
  r2 : wr.cell? ⟨w.heap.size + 1, 2, none⟩ = some (.slice none 0 0)
  r3 : wr.cell? ⟨w.heap.size + 1, 3, none⟩ = some (.string { data := #[] })
  f0 : wr.frozen? ⟨w.heap.size + 1, 0, none⟩ = false
  f1 : wr.frozen? ⟨w.heap.size + 1, 1, none⟩ = false
  f2 : wr.frozen? ⟨w.heap.size + 1, 2, none⟩ = false
  f3 : wr.frozen? ⟨w.heap.size + 1, 3, none⟩ = false
theorem Qz.facts (h : Qz w wr H B A) : QzF w wr H B A := ⟨h.bx.cell 0, h.bx.cell 1, h.res.cell 0, h.res.cell 1, h.res.cell 2, h.res.cell 3, h.res.frozen 0, h.res.frozen 1, h.res.frozen 2, h.res.frozen 3⟩
theorem Qz.put (h : Qz w wr H B A) (a b c d : Value) :
    ∃ wz, wz = (((wr.setCell ⟨w.heap.size + 1, 0, none⟩ a).setCell ⟨w.heap.size + 1, 1, none⟩ b).setCell ⟨w.heap.size + 1, 2, none⟩ c).setCell ⟨w.heap.size + 1, 3, none⟩ d ∧ Below w.heap.size w wz ∧
      wz.cell? ⟨w.heap.size + 1, 0, none⟩ = some a ∧ wz.cell? ⟨w.heap.size + 1, 1, none⟩ = some b ∧ wz.cell? ⟨w.heap.size + 1, 2, none⟩ = some c ∧ wz.cell? ⟨w.heap.size + 1, 3, none⟩ = some d ∧ (∀ t B v l, w.heap.size + 1 < B → OP t wr B v l → OP t wz B v l) := by
  have h1 := (((h.res.set_ 0 a).set_ 1 b).set_ 2 c).set_ 3 d
  have hle : w.heap.size ≤ w.heap.size + 1 := Nat.le_succ _
  refine ⟨_, rfl, (((h.be.setCell (p := ⟨w.heap.size + 1, 0, none⟩) hle _).setCell (p := ⟨w.heap.size + 1, 1, none⟩) hle _).setCell (p := ⟨w.heap.size + 1, 2, none⟩) hle _).setCell (p := ⟨w.heap.size + 1, 3, none⟩) hle _, h1.cell 0, h1.cell 1, h1.cell 2, h1.cell 3, fun t B v l hB ho => ?_⟩
  exact (((ho.store (p := ⟨w.heap.size + 1, 0, none⟩) hB a).store (p := ⟨w.heap.size + 1, 1, none⟩) hB b).store (p := ⟨w.heap.size + 1, 2, none⟩) hB c).store (p := ⟨w.heap.size + 1, 3, none⟩) hB d
end
/-- the value of a request -/
def RqV (w : World) (B : Nat) (v : Value) (h : Hd) (x : ByteArray) : Prop := ∃ A c, v = .agg #[.string h.m, .string h.t, .slice A h.fs.length c, .string x] ∧ OP 108 w B (.slice A h.fs.length c) h.fs
theorem RqV.zero (w : World) (B : Nat) : RqV w B (.agg #[.string { data := #[] }, .string { data := #[] }, .slice none 0 0, .string { data := #[] }]) zHd ⟨#[]⟩ := ⟨none, 0, rfl, OP.nil _ _ _⟩
theorem RqV.kept {w w' : World} {B : Nat} {v : Value} {h : Hd} {x : ByteArray} (k : RqV w B v h x) (hb : Below w.heap.size w w') : RqV w' B v h x := by
  obtain ⟨A, c, e, o⟩ := k
  exact ⟨A, c, e, o.kept hb⟩
theorem RqV.mono {w : World} {B B' : Nat} {v : Value} {h : Hd} {x : ByteArray} (k : RqV w B v h x) (hB : B' ≤ B) : RqV w B' v h x := by
  obtain ⟨A, c, e, o⟩ := k
  exact ⟨A, c, e, o.mono hB⟩
def ReqRes (R : Int × Hd × ByteArray × Nat) (w : World) (e : Ending) (w' : World) : Prop := ∃ v, e = .returned (.tuple #[v, .int .i64 R.2.2.2, .int .i64 R.1]) ∧ RqV w' w.heap.size v R.2.1 R.2.2.1 ∧ Below w.heap.size w w'
theorem index_as (s t : ByteArray) (m : Int) (w : World) (I : Int) (hI : Lib.index s.data.toList t.data.toList = I) (hs : s.size < 4294967281) (hm : w.cell? ⟨1, 0, none⟩ = some (.int .i64 m)) :
    Calls Tryd.prog 101 #[.string s, .string t] w fun e w' => e = .returned (.int .i64 I) ∧ w = w' := by
  rw [← hI]; exact (Tryd.strings_Index s t m w hs hm).mono fun _ _ h => ⟨h.1, h.2.symm⟩
section
variable (s : ByteArray) (H B A m : Int) (w : World)
set_option maxRecDepth 100000 in
set_option maxHeartbeats 4000000 in
theorem one_nohead (hs : s.size ≤ 1048576) (hH : 0 ≤ H ∧ H ≤ 1048576) (hm : w.cell? ⟨1, 0, none⟩ = some (.int .i64 m)) (h : sepI s < 0 ∨ H < sepI s + 4) :
    Calls Tryd.prog 68 #[.string s, .agg #[.int .i64 H, .int .i64 B, .int .i64 A]] w (ReqRes (reqR s H B) w) := by
  obtain ⟨P, hP⟩ : ∃ P : Nat, (P : Int) = min (s.size : Int) H := ⟨(min (s.size : Int) H).toNat, by omega⟩
  have hPs : P ≤ s.size := by omega
  have hsp : sepI (s.extract 0 P) = -1 := by
    rw [sep_front s P hPs, if_neg]
    have := fun h => sep_room (s := s) h
    omega
  have HR := Lib.hid (req_nohead (B := B) h)
  obtain ⟨W, hW⟩ : ∃ W, (w.alloc (.cells #[.int .i64 H, .int .i64 B, .int .i64 A] 43)).alloc (.cells #[.string { data := #[] }, .string { data := #[] }, .slice none 0 0, .string { data := #[] }] 36) = W := ⟨_, rfl⟩
  have hZ : Qz w W H B A := by rw [← hW]; exact Qz.start
  have hmW : W.cell? ⟨1, 0, none⟩ = some (.int .i64 m) := (hZ.be.cell (p := ⟨1, 0, none⟩) (World.block_lt_of_cell? _ _ hm)).trans hm
  have CI := Lib.hid (index_as (s.extract 0 P) ⟨#[13, 10, 13, 10]⟩ m W (-1) hsp (by rw [ByteArray.size_extract]; omega) hmW)
  obtain ⟨b0, b1, r0, r1, r2, r3, f0, f1, f2, f3⟩ := hZ.facts
  have HZ := Lib.hid hZ
  obtain ⟨hH0, hH1⟩ := hH
  clear hZ hm hmW h hsp
  have jP : (min (s.size : Int) H).toNat = P := by rw [← hP]; rfl
  by_cases c : H ≤ (s.size : Int)
  · have HR2 : Hid (reqR s H B = (5, zHd, ⟨#[]⟩, 0)) := Lib.hid (by rw [HR.out, if_pos c])
    have d1 : decide (H ≤ (s.size : Int)) = true := decide_eq_true c
    clear c HR hP
    go_enter Tryd.func68, Tryd.ntmps68
    go_wp2_with fail
    refine CI.out.mono ?_
    rintro e w1 ⟨rfl, rfl⟩
    obtain ⟨wz, hwz, hbz, z0, z1, z2, z3, _⟩ := HZ.out.put (.string { data := #[] }) (.string { data := #[] }) (.slice none 0 0) (.string { data := #[] })
    go_wp2_with fail
    rw [← hwz]
    exact bodyPost_ret (v := .tuple #[.agg #[.string { data := #[] }, .string { data := #[] }, .slice none 0 0, .string { data := #[] }], .int .i64 0, .int .i64 5]) (by simp [results, Tryd.results68, go_sem, z0, z1, z2, z3]) rfl ⟨_, by rw [HR2.out]; rfl, by rw [HR2.out]; exact RqV.zero _ _, hbz⟩
  · have HR2 : Hid (reqR s H B = (7, zHd, ⟨#[]⟩, 0)) := Lib.hid (by rw [HR.out, if_neg c])
    have d1 : decide (H ≤ (s.size : Int)) = false := decide_eq_false c
    clear c HR hP
    go_enter Tryd.func68, Tryd.ntmps68
    go_wp2_with fail
    refine CI.out.mono ?_
    rintro e w1 ⟨rfl, rfl⟩
    obtain ⟨wz, hwz, hbz, z0, z1, z2, z3, _⟩ := HZ.out.put (.string { data := #[] }) (.string { data := #[] }) (.slice none 0 0) (.string { data := #[] })
    go_wp2_with fail
    rw [← hwz]
    exact bodyPost_ret (v := .tuple #[.agg #[.string { data := #[] }, .string { data := #[] }, .slice none 0 0, .string { data := #[] }], .int .i64 0, .int .i64 7]) (by simp [results, Tryd.results68, go_sem, z0, z1, z2, z3]) rfl ⟨_, by rw [HR2.out]; rfl, by rw [HR2.out]; exact RqV.zero _ _, hbz⟩
end
theorem hd_sm (h : Hd) (h0 : hdE h = 0) : HdSmall h.m h.t h.fs := by
  obtain ⟨m, t, fs⟩ := h
  exact hdE_small h0
theorem rh_small {p : ByteArray} (h : rhE p = 0) : HdSmall (rhR p).m (rhR p).t (rhR p).fs := by
  by_cases h1 : 4096 < p.size
  · rw [(rh_large h1).1] at h; exact absurd h (by decide)
  · by_cases h2 : RhForm p
    · by_cases h3 : hdE (rhHd p) = 0
      · rw [(rh_ok h1 h2 h3).2]; exact hd_sm _ h3
      · rw [(rh_bad h1 h2 h3).1] at h; exact absurd h h3
    · rw [(rh_form h1 h2).1] at h; exact absurd h (by decide)
theorem rh_zero {p : ByteArray} (h : ¬ rhE p = 0) : rhR p = zHd := by unfold rhR; rw [if_neg h]
/-- a head that was read, in the block g -/
structure OnS (w wr : World) (H B A : Int) (g Bz : Nat) (mm tt : ByteArray) (A1 : Option Addr) (c1 : Nat) (ff : List Fd) : Prop where
  qz : Qz w wr H B A
  hd : Blk wr g 24 #[.string mm, .string tt, .slice A1 ff.length c1]
  ho : OP 108 wr Bz (.slice A1 ff.length c1) ff
theorem OnS.step {w wr wr' : World} {H B A : Int} {g Bz : Nat} {mm tt : ByteArray} {A1 : Option Addr} {c1 : Nat} {ff : List Fd} (h : OnS w wr H B A g Bz mm tt A1 c1 ff) (hb : Below wr.heap.size wr wr') : OnS w wr' H B A g Bz mm tt A1 c1 ff :=
  ⟨h.qz.step hb, h.hd.below hb h.hd.lt, h.ho.kept hb⟩
section
variable (s : ByteArray) (H B A m : Int) (w : World)
set_option maxRecDepth 100000 in
set_option maxHeartbeats 4000000 in
theorem one_head (hs : s.size ≤ 1048576) (hH : 0 ≤ H ∧ H ≤ 1048576) (hB : -9223372036854775808 ≤ B ∧ B ≤ 9223372036854775807) (hm : w.cell? ⟨1, 0, none⟩ = some (.int .i64 m)) (n : Nat) (hn : sepI s = n) (h : (n : Int) + 4 ≤ H) :
    Calls Tryd.prog 68 #[.string s, .agg #[.int .i64 H, .int .i64 B, .int .i64 A]] w (ReqRes (reqR s H B) w) := by
  have hroom := sep_room (s := s) (by omega)
  obtain ⟨P, hP⟩ : ∃ P : Nat, (P : Int) = min (s.size : Int) H := ⟨(min (s.size : Int) H).toNat, by omega⟩
  have hPs : P ≤ s.size := by omega
  have hsp : sepI (s.extract 0 P) = n := by
    rw [sep_front s P hPs, if_pos (by omega)]; exact hn
  obtain ⟨W, hW⟩ : ∃ W, (w.alloc (.cells #[.int .i64 H, .int .i64 B, .int .i64 A] 43)).alloc (.cells #[.string { data := #[] }, .string { data := #[] }, .slice none 0 0, .string { data := #[] }] 36) = W := ⟨_, rfl⟩
  have hZ : Qz w W H B A := by rw [← hW]; exact Qz.start
  have hmW : W.cell? ⟨1, 0, none⟩ = some (.int .i64 m) := (hZ.be.cell (p := ⟨1, 0, none⟩) (World.block_lt_of_cell? _ _ hm)).trans hm
  have CI := Lib.hid (index_as (s.extract 0 P) ⟨#[13, 10, 13, 10]⟩ m W n hsp (by rw [ByteArray.size_extract]; omega) hmW)
  obtain ⟨b0, b1, r0, r1, r2, r3, f0, f1, f2, f3⟩ := hZ.facts
  have hWz := hZ.lt
  have HZ := Lib.hid hZ
  obtain ⟨hH0, hH1⟩ := hH
  obtain ⟨hB0, hB1⟩ := hB
  have jP : (min (s.size : Int) H).toNat = P := by rw [← hP]; rfl
  have jn : IntKind.i64.wrap ((n : Int) + 4) = (n : Int) + 4 := IntWalk.i64_in _ (by omega)
  have jn2 : ((n : Int) + 4).toNat = n + 4 := by omega
  have i1 : (0 : Int) ≤ (n : Int) + 4 := by omega
  have i2 : (n : Int) + 4 ≤ (s.size : Int) := by omega
  have dn : decide ((n : Int) < 0) = false := decide_eq_false (by omega)
  obtain ⟨p, hp⟩ : ∃ p, s.extract 0 (n + 4) = p := ⟨_, rfl⟩
  have hpz : p.size ≤ 1048576 := by rw [← hp, ByteArray.size_extract]; omega
  have CP := headParse_any p m W hpz hmW
  obtain ⟨mm, tt, ff, hRR⟩ : ∃ mm tt ff, rhR p = ⟨mm, tt, ff⟩ := ⟨_, _, _, rfl⟩
  have HRR := Lib.hid hRR
  obtain ⟨E, hE⟩ : ∃ E, rhE p = E := ⟨_, rfl⟩
  unfold RhRes at CP
  rw [hE, hRR] at CP
  have CP := Lib.hid CP
  have HP := Lib.hid hp
  have HN := Lib.hid hn
  have HH := Lib.hid h
  have HE := Lib.hid hE
  clear hZ hm hmW hsp hP hRR hE hn h
  by_cases e0 : E = 0
  · have hsm := rh_small (p := p) (HE.out.trans e0)
    rw [HRR.out] at hsm
    dsimp only at hsm
    obtain ⟨sm1, sm2, sm3, sm4⟩ := hsm
    obtain ⟨r, hr⟩ : ∃ r, s.extract (n + 4) s.size = r := ⟨_, rfl⟩
    have hrz : r.size ≤ 1048576 := by rw [← hr, ByteArray.size_extract]; omega
    obtain ⟨x, k, E2, hX⟩ : ∃ x k E2, bodR (frR (getL ff clB) (getL ff teB)) r B = (x, k, E2) := ⟨_, _, _, rfl⟩
    have hkb := (bodR_bd (getL ff clB) (getL ff teB) r B).2
    rw [hX] at hkb
    dsimp only at hkb
    have hrl : r.size + n + 4 ≤ s.size := by rw [← hr, ByteArray.size_extract]; omega
    have HRb := Lib.hid fun (h2 : ¬ E2 = 0) => req_body (H := H) HN.out HH.out HP.out (HE.out.trans e0) hr (by rw [HRR.out]; exact hX) h2
    have HRo := Lib.hid fun (h2 : E2 = 0) => req_ok (H := H) HN.out HH.out HP.out (HE.out.trans e0) hr (by rw [HRR.out]; rw [h2] at hX; exact hX)
    have HSM : Hid (∀ f ∈ ff, f.n.size ≤ 1048576 ∧ f.v.size ≤ 1048576) := Lib.hid fun f hf => by
      obtain ⟨i, hi, rfl⟩ := List.mem_iff_getElem.1 hf
      have := sm4 i hi
      omega
    have CB : Hid (∀ w' c1 A1, FdR w' w'.heap.size A1 c1 ff → Calls Tryd.prog 103 #[.agg #[.string mm, .string tt, .slice A1 ff.length c1], .string r, .int .i64 B] w' fun e w'' => e = .returned (.tuple #[.string x, .int .i64 k, .int .i64 E2]) ∧ Below w'.heap.size w' w'') := Lib.hid fun w' c1 A1 hf => by
      have := body_any mm tt A1 c1 ff r B w' w'.heap.size (Nat.le_refl _) hf (by omega) hrz ⟨hB0, hB1⟩
      unfold BodRes at this
      rw [hX] at this
      exact this
    have jk : IntKind.i64.wrap ((n : Int) + 4 + (k : Int)) = (n : Int) + 4 + (k : Int) := IntWalk.i64_in _ (by omega)
    subst e0
    have HX := Lib.hid hX
    have HRX := Lib.hid hr
    clear sm4 hX hkb
    go_enter Tryd.func68, Tryd.ntmps68
    go_wp2_with fail
    refine CI.out.mono ?_
    rintro e w1 ⟨rfl, rfl⟩
    go_wp2_with fail
    refine CP.out.mono ?_
    rintro e w2 ⟨v, rfl, ⟨A1, c1, rfl, ho1⟩, b1⟩
    have hZ2 := (HZ.out.step b1).alloc (.cells #[.string mm, .string tt, .slice A1 ff.length c1] 24)
    have hO : OP 108 w2 W.heap.size (.slice A1 ff.length c1) ff := ho1
    have hO2 := hO.kept ((Below.refl w2.heap.size w2).alloc (Nat.le_refl _) (.cells #[.string mm, .string tt, .slice A1 ff.length c1] 24))
    have hK2 := Blk.new w2 24 #[.string mm, .string tt, .slice A1 ff.length c1]
    clear ho1 hO b1 b0 r0 r1 r2 r3 f0 f1 f2 f3
    go_upto_region 8 with fail
    obtain ⟨V, hV⟩ : ∃ V, w2.alloc (.cells #[.string mm, .string tt, .slice A1 ff.length c1] 24) = V := ⟨_, rfl⟩
    rw [hV] at hZ2 hO2 hK2 ⊢
    clear hV
    have hS : OnS w V H B A w2.heap.size W.heap.size mm tt A1 c1 ff := ⟨hZ2, hK2, hO2⟩
    have hSd : OnS w V.drew H B A w2.heap.size W.heap.size mm tt A1 c1 ff := hS.step (below_drewN (Below.refl _ _) 1)
    have HS : Hid (∀ w', OnS w w' H B A w2.heap.size W.heap.size mm tt A1 c1 ff → w'.cell? ⟨w2.heap.size, 0, none⟩ = some (.string mm) ∧ w'.cell? ⟨w2.heap.size, 1, none⟩ = some (.string tt) ∧ w'.cell? ⟨w2.heap.size, 2, none⟩ = some (.slice A1 ff.length c1) ∧ w'.cell? ⟨w.heap.size, 1, none⟩ = some (.int .i64 B)) := fun w' h => ⟨h.hd.cell 0, h.hd.cell 1, h.hd.cell 2, h.qz.bx.cell 1⟩
    have CB2 := Lib.hid fun w' (h : OnS w w' H B A w2.heap.size W.heap.size mm tt A1 c1 ff) => CB.out w' c1 A1 (h.ho.fdR HSM.out)
    clear hZ2 hO2 hK2 hS CB
    go_wp2_with fail
    go_region_held3 (fun w' => w'.cell? ⟨w2.heap.size, 0, none⟩ = some (.string mm) ∧ w'.cell? ⟨w2.heap.size, 1, none⟩ = some (.string tt) ∧ w'.cell? ⟨w2.heap.size, 2, none⟩ = some (.slice A1 ff.length c1) ∧ w'.cell? ⟨w.heap.size, 1, none⟩ = some (.int .i64 B)) (exact HS.out _ (by assumption))
      (first
        | (go_at_call 103; (with_reducible refine (CB2.out _ (by assumption)).mono ?_); rintro e w' ⟨rfl, hb'⟩; have hs' := OnS.step (by assumption) hb')
        | fail)
    have HS' := Lib.hid hs'
    obtain ⟨b0, b1, r0, r1, r2, r3, f0, f1, f2, f3⟩ := hs'.qz.facts
    obtain ⟨k0, k1, k2, _⟩ := HS.out _ hs'
    clear hs' hSd hb'
    by_cases e2 : E2 = 0
    · have HR := Lib.hid (HRo.out e2)
      subst e2
      obtain ⟨wz, hwz, hbz, z0, z1, z2, z3, ho⟩ := HS'.out.qz.put (.string mm) (.string tt) (.slice A1 ff.length c1) (.string x)
      go_wp2_with fail
      rw [← hwz]
      refine bodyPost_ret (v := .tuple #[.agg #[.string mm, .string tt, .slice A1 ff.length c1, .string x], .int .i64 ((n : Int) + 4 + (k : Int)), .int .i64 0]) (by simp [results, Tryd.results68, go_sem, z0, z1, z2, z3]) rfl ⟨_, by rw [HR.out]; dsimp only; rw [show ((n + 4 + k : Nat) : Int) = (n : Int) + 4 + (k : Int) by omega], ?_, hbz⟩
      rw [HR.out]
      dsimp only
      rw [HRR.out]
      exact ⟨A1, c1, rfl, (ho _ _ _ _ hWz HS'.out.ho).mono (by omega)⟩
    · have HR := Lib.hid (HRb.out e2)
      have ee : (E2 != 0) = true := bne_iff_ne.2 e2
      clear e2
      obtain ⟨wz, hwz, hbz, z0, z1, z2, z3, _⟩ := HS'.out.qz.put (.string { data := #[] }) (.string { data := #[] }) (.slice none 0 0) (.string { data := #[] })
      go_wp2_with fail
      rw [← hwz]
      exact bodyPost_ret (v := .tuple #[.agg #[.string { data := #[] }, .string { data := #[] }, .slice none 0 0, .string { data := #[] }], .int .i64 0, .int .i64 E2]) (by simp [results, Tryd.results68, go_sem, z0, z1, z2, z3]) rfl ⟨_, by rw [HR.out]; rfl, by rw [HR.out]; exact RqV.zero _ _, hbz⟩
  · have HR := Lib.hid (req_head (B := B) HN.out HH.out HP.out (by rw [HE.out]; exact e0))
    have hz := (rh_zero (p := p) (by rw [HE.out]; exact e0)).symm.trans HRR.out
    unfold zHd at hz
    injection hz with hz1 hz2 hz3
    subst hz1 hz2 hz3
    have ee : (E != 0) = true := bne_iff_ne.2 e0
    clear e0
    go_enter Tryd.func68, Tryd.ntmps68
    go_wp2_with fail
    refine CI.out.mono ?_
    rintro e w1 ⟨rfl, rfl⟩
    go_wp2_with fail
    refine CP.out.mono ?_
    rintro e w2 ⟨v, rfl, ⟨A1, c1, rfl, ho1⟩, b1⟩
    have hZ2 := (HZ.out.step b1).alloc (.cells #[.string { data := #[] }, .string { data := #[] }, .slice A1 0 c1] 24)
    clear ho1 b1 b0 r0 r1 r2 r3 f0 f1 f2 f3
    go_upto_region 8 with fail
    obtain ⟨V, hV⟩ : ∃ V, w2.alloc (.cells #[.string { data := #[] }, .string { data := #[] }, .slice A1 0 c1] 24) = V := ⟨_, rfl⟩
    rw [hV] at hZ2 ⊢
    clear hV
    obtain ⟨b0, b1, r0, r1, r2, r3, f0, f1, f2, f3⟩ := hZ2.facts
    obtain ⟨wz, hwz, hbz, z0, z1, z2, z3, _⟩ := hZ2.put (.string { data := #[] }) (.string { data := #[] }) (.slice none 0 0) (.string { data := #[] })
    clear hZ2
    go_wp2_with fail
    rw [← hwz]
    exact bodyPost_ret (v := .tuple #[.agg #[.string { data := #[] }, .string { data := #[] }, .slice none 0 0, .string { data := #[] }], .int .i64 0, .int .i64 E]) (by simp [results, Tryd.results68, go_sem, z0, z1, z2, z3]) rfl ⟨_, by rw [HR.out, HE.out]; rfl, by rw [HR.out]; exact RqV.zero _ _, hbz⟩
theorem one_any (hs : s.size ≤ 1048576) (hH : 0 ≤ H ∧ H ≤ 1048576) (hB : -9223372036854775808 ≤ B ∧ B ≤ 9223372036854775807) (hm : w.cell? ⟨1, 0, none⟩ = some (.int .i64 m)) :
    Calls Tryd.prog 68 #[.string s, .agg #[.int .i64 H, .int .i64 B, .int .i64 A]] w (ReqRes (reqR s H B) w) := by
  by_cases h : sepI s < 0 ∨ H < sepI s + 4
  · exact one_nohead s H B A m w hs hH hm h
  · obtain ⟨n, hn⟩ := Int.eq_ofNat_of_zero_le (show 0 ≤ sepI s by omega)
    exact one_head s H B A m w hs hH hB hm n hn (by omega)
end
end Go.Proofs.YtkcncgdgicffhaaDoor
