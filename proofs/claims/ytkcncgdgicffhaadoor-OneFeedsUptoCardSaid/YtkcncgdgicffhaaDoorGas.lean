/- Walk: wickref.SameHead of two heads that are the same. -/
import Derived.Test.YtkcncgdgicffhaaDoorGq
import Derived.Test.YtkcncgdgicffhaaDoorGar
namespace Go.Proofs.YtkcncgdgicffhaaDoor
open Go.RowKit
set_option linter.unusedVariables false
set_option linter.unusedSimpArgs false

set_option maxHeartbeats 1000000 in
theorem sameHead_any (m t : ByteArray) (fs : List Fd) (A A' : Option Addr) (c c' B B' : Nat) (w : World) (hl : fs.length ≤ 9000000000) (h : OP 108 w B (.slice A fs.length c) fs) (h' : OP 108 w B' (.slice A' fs.length c') fs) :
    Calls Tryd.prog 17 #[.agg #[.string m, .string t, .slice A fs.length c], .agg #[.string m, .string t, .slice A' fs.length c']] w fun e w' => e = .returned (.bool true) ∧ Below w.heap.size w w' := by
  obtain ⟨W, hW⟩ : ∃ W, (w.alloc (.cells #[.string m, .string t, .slice A fs.length c] 24)).alloc (.cells #[.string m, .string t, .slice A' fs.length c'] 24) = W := ⟨_, rfl⟩
  have hb : Below w.heap.size w W := by rw [← hW]; exact ((Below.refl _ _).alloc (Nat.le_refl _) _).alloc (by simp) _
  have h1 : OP 108 W B (.slice A fs.length c) fs := by rw [← hW]; exact (h.alloc _).alloc _
  have h2 : OP 108 W B' (.slice A' fs.length c') fs := by rw [← hW]; exact (h'.alloc _).alloc _
  have K1 : Blk W w.heap.size 24 #[.string m, .string t, .slice A fs.length c] := by rw [← hW]; exact (Blk.new _ _ _).alloc _
  have K2 : Blk W (w.heap.size + 1) 24 #[.string m, .string t, .slice A' fs.length c'] := by
    have := Blk.new (w.alloc (.cells #[.string m, .string t, .slice A fs.length c] 24)) 24 #[.string m, .string t, .slice A' fs.length c']
    rw [hW] at this
    simpa using this
  have CE := Lib.hid (eqFd_any A A' c c' fs W B B' hl h1 h2)
  have x0 : W.cell? ⟨w.heap.size, 0, none⟩ = some (.string m) := K1.cell 0
  have x1 : W.cell? ⟨w.heap.size, 1, none⟩ = some (.string t) := K1.cell 1
  have x2 : W.cell? ⟨w.heap.size, 2, none⟩ = some (.slice A fs.length c) := K1.cell 2
  have y0 : W.cell? ⟨w.heap.size + 1, 0, none⟩ = some (.string m) := K2.cell 0
  have y1 : W.cell? ⟨w.heap.size + 1, 1, none⟩ = some (.string t) := K2.cell 1
  have y2 : W.cell? ⟨w.heap.size + 1, 2, none⟩ = some (.slice A' fs.length c') := K2.cell 2
  have HB := Lib.hid hb
  clear h h' h1 h2 K1 K2 hb
  go_enter Tryd.func17, Tryd.ntmps17
  go_wp2_with fail
  refine CE.out.mono ?_
  rintro e w1 ⟨rfl, b1⟩
  have HB1 := Lib.hid (HB.out.trans (b1.mono HB.out.size))
  clear b1
  go_wp2_with fail
  go_ret
  exact ⟨rfl, HB1.out⟩
end Go.Proofs.YtkcncgdgicffhaaDoor

/- Walks: one.One; wickref.SameRequest of two requests that are the same. -/
namespace Go.Proofs.YtkcncgdgicffhaaDoor
open Go.RowKit
set_option linter.unusedVariables false
set_option linter.unusedSimpArgs false

/-- One: the bounds are looked at first -/
noncomputable def oneR (s : ByteArray) (H B A : Int) : Int × Hd × ByteArray × Nat := if bdE H B A = 0 then reqR s H B else (1, zHd, ⟨#[]⟩, 0)
theorem bd_cases (H B A : Int) : (bdE H B A = 1) ∨ (bdE H B A = 0 ∧ 30 ≤ H ∧ H ≤ 4096 ∧ 0 ≤ B ∧ B ≤ 4096) := by
  unfold bdE; split
  · exact .inl rfl
  · exact .inr ⟨rfl, by omega, by omega, by omega, by omega⟩
section
variable (s : ByteArray) (H B A m : Int) (w : World)
set_option maxRecDepth 100000 in
set_option maxHeartbeats 4000000 in
theorem One_any (hs : s.size ≤ 1048576) (hm : w.cell? ⟨1, 0, none⟩ = some (.int .i64 m)) :
    Calls Tryd.prog 21 #[.string s, .agg #[.int .i64 H, .int .i64 B, .int .i64 A]] w (ReqRes (oneR s H B A) w) := by
  obtain ⟨W, hW⟩ : ∃ W, (w.alloc (.cells #[.int .i64 H, .int .i64 B, .int .i64 A] 43)).alloc (.cells #[.string { data := #[] }, .string { data := #[] }, .slice none 0 0, .string { data := #[] }] 36) = W := ⟨_, rfl⟩
  have hZ : Qz w W H B A := by rw [← hW]; exact Qz.start
  have HM := Lib.hid fun w' (h : Qz w w' H B A) => (h.be.cell (p := ⟨1, 0, none⟩) (World.block_lt_of_cell? _ _ hm)).trans hm
  have C1 := Lib.hid (check_any H B A W)
  obtain ⟨b0, b1, r0, r1, r2, r3, f0, f1, f2, f3⟩ := hZ.facts
  have b2 : W.cell? ⟨w.heap.size, 2, none⟩ = some (.int .i64 A) := hZ.bx.cell 2
  have HZ := Lib.hid hZ
  have HBX := Lib.hid fun w' (h : Qz w w' H B A) => h.bx.cell 2
  clear hZ hm
  rcases bd_cases H B A with hb | ⟨hb, hb1, hb2, hb3, hb4⟩
  · rw [hb] at C1
    have HR : Hid (oneR s H B A = (1, zHd, ⟨#[]⟩, 0)) := Lib.hid (by unfold oneR; rw [hb]; rfl)
    clear hb
    go_enter Tryd.func21, Tryd.ntmps21
    go_wp2_with fail
    refine C1.out.mono ?_
    rintro e w1 ⟨rfl, hb⟩
    have hZ1 := HZ.out.step hb
    clear hb b0 b1 b2 r0 r1 r2 r3 f0 f1 f2 f3 hW
    obtain ⟨b0, b1, r0, r1, r2, r3, f0, f1, f2, f3⟩ := hZ1.facts
    obtain ⟨wz, hwz, hbz, z0, z1, z2, z3, _⟩ := hZ1.put (.string { data := #[] }) (.string { data := #[] }) (.slice none 0 0) (.string { data := #[] })
    clear hZ1
    go_wp2_with fail
    rw [← hwz]
    exact bodyPost_ret (v := .tuple #[.agg #[.string { data := #[] }, .string { data := #[] }, .slice none 0 0, .string { data := #[] }], .int .i64 0, .int .i64 1]) (by simp [results, Tryd.results21, go_sem, z0, z1, z2, z3]) rfl ⟨_, by rw [HR.out]; rfl, by rw [HR.out]; exact RqV.zero _ _, hbz⟩
  · rw [hb] at C1
    have CO := fun w' (h : Qz w w' H B A) => one_any s H B A m w' hs ⟨by omega, by omega⟩ ⟨by omega, by omega⟩ (HM.out w' h)
    unfold ReqRes at CO
    obtain ⟨E, h, x, n, hR⟩ : ∃ E h x n, reqR s H B = (E, h, x, n) := ⟨_, _, _, _, rfl⟩
    rw [hR] at CO
    have HR : Hid (oneR s H B A = (E, h, x, n)) := Lib.hid (by unfold oneR; rw [if_pos hb]; exact hR)
    obtain ⟨mm, tt, ff⟩ := h
    have CO := Lib.hid CO
    clear hb hR
    go_enter Tryd.func21, Tryd.ntmps21
    go_wp2_with fail
    refine C1.out.mono ?_
    rintro e w1 ⟨rfl, hb⟩
    have hZ1 := HZ.out.step hb
    clear hb b0 b1 b2 r0 r1 r2 r3 f0 f1 f2 f3 hW
    obtain ⟨b0, b1, _, _, _, _, _, _, _, _⟩ := hZ1.facts
    have b2 : w1.cell? ⟨w.heap.size, 2, none⟩ = some (.int .i64 A) := hZ1.bx.cell 2
    have HL := Lib.hid hZ1.lt
    have CO1 := Lib.hid (CO.out w1 hZ1)
    have HZ1 := Lib.hid hZ1
    clear hZ1 CO
    go_wp2_with fail
    refine CO1.out.mono ?_
    rintro e w2 ⟨v, rfl, ⟨A1, c1, rfl, ho1⟩, hb⟩
    have hZ2 := HZ1.out.step hb
    have HO := Lib.hid ho1
    clear hb b0 b1 b2 CO1 ho1
    obtain ⟨b0, b1, r0, r1, r2, r3, f0, f1, f2, f3⟩ := hZ2.facts
    obtain ⟨wz, hwz, hbz, z0, z1, z2, z3, ho⟩ := hZ2.put (.string mm) (.string tt) (.slice A1 ff.length c1) (.string x)
    clear hZ2
    go_wp2_with fail
    rw [← hwz]
    refine bodyPost_ret (v := .tuple #[.agg #[.string mm, .string tt, .slice A1 ff.length c1, .string x], .int .i64 n, .int .i64 E]) (by simp [results, Tryd.results21, go_sem, z0, z1, z2, z3]) rfl ⟨_, by rw [HR.out], ?_, hbz⟩
    rw [HR.out]
    exact ⟨A1, c1, rfl, (ho _ _ _ _ HL.out HO.out).mono (by have := HL.out; omega)⟩
end

set_option maxRecDepth 100000 in
set_option maxHeartbeats 2000000 in
theorem sameReq_any (m t x : ByteArray) (fs : List Fd) (A A' : Option Addr) (c c' B B' : Nat) (w : World) (hl : fs.length ≤ 9000000000) (h : OP 108 w B (.slice A fs.length c) fs) (h' : OP 108 w B' (.slice A' fs.length c') fs) :
    Calls Tryd.prog 23 #[.agg #[.string m, .string t, .slice A fs.length c, .string x], .agg #[.string m, .string t, .slice A' fs.length c', .string x]] w fun e w' => e = .returned (.bool true) ∧ Below w.heap.size w w' := by
  obtain ⟨W, hW⟩ : ∃ W, (w.alloc (.cells #[.string m, .string t, .slice A fs.length c, .string x] 36)).alloc (.cells #[.string m, .string t, .slice A' fs.length c', .string x] 36) = W := ⟨_, rfl⟩
  have hb : Below w.heap.size w W := by rw [← hW]; exact ((Below.refl _ _).alloc (Nat.le_refl _) _).alloc (by simp) _
  have h1 : OP 108 W B (.slice A fs.length c) fs := by rw [← hW]; exact (h.alloc _).alloc _
  have h2 : OP 108 W B' (.slice A' fs.length c') fs := by rw [← hW]; exact (h'.alloc _).alloc _
  have K1 : Blk W w.heap.size 36 #[.string m, .string t, .slice A fs.length c, .string x] := by rw [← hW]; exact (Blk.new _ _ _).alloc _
  have K2 : Blk W (w.heap.size + 1) 36 #[.string m, .string t, .slice A' fs.length c', .string x] := by
    have := Blk.new (w.alloc (.cells #[.string m, .string t, .slice A fs.length c, .string x] 36)) 36 #[.string m, .string t, .slice A' fs.length c', .string x]
    rw [hW] at this
    simpa using this
  have CE := Lib.hid (sameHead_any m t fs A A' c c' B B' W hl h1 h2)
  have x0 : W.cell? ⟨w.heap.size, 0, none⟩ = some (.string m) := K1.cell 0
  have x1 : W.cell? ⟨w.heap.size, 1, none⟩ = some (.string t) := K1.cell 1
  have x2 : W.cell? ⟨w.heap.size, 2, none⟩ = some (.slice A fs.length c) := K1.cell 2
  have y0 : W.cell? ⟨w.heap.size + 1, 0, none⟩ = some (.string m) := K2.cell 0
  have y1 : W.cell? ⟨w.heap.size + 1, 1, none⟩ = some (.string t) := K2.cell 1
  have y2 : W.cell? ⟨w.heap.size + 1, 2, none⟩ = some (.slice A' fs.length c') := K2.cell 2
  have HB := Lib.hid hb
  have HK1 := Lib.hid K1
  have HK2 := Lib.hid K2
  have xx : (x.toList == x.toList) = true := by simp
  clear h h' h1 h2 K1 K2 hb
  go_enter Tryd.func23, Tryd.ntmps23
  go_wp2_with fail
  refine CE.out.mono ?_
  rintro e w1 ⟨rfl, b1⟩
  have x3 : w1.cell? ⟨w.heap.size, 3, none⟩ = some (.string x) := (HK1.out.below b1 HK1.out.lt).cell 3
  have y3 : w1.cell? ⟨w.heap.size + 1, 3, none⟩ = some (.string x) := (HK2.out.below b1 HK2.out.lt).cell 3
  have HB1 := Lib.hid (HB.out.trans (b1.mono HB.out.size))
  clear b1 x0 x1 x2 y0 y1 y2
  go_wp2_with fail
  go_ret
  exact ⟨rfl, HB1.out⟩
end Go.Proofs.YtkcncgdgicffhaaDoor
