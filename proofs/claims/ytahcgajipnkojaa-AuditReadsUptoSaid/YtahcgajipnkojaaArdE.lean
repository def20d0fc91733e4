/- Walk: the closure of wickref.ReadRecord, a number that is there. -/
import Derived.Test.YtahcgajipnkojaaArdB
namespace Go.Proofs.Ytahcgajipnkojaa
open Go.RowKit
set_option linter.unusedVariables false
set_option linter.unusedSimpArgs false
section
variable (s : ByteArray) (a : Nat) (e m : Int) (g : Nat) (w : World) (ge gs ga : Nat)
set_option maxHeartbeats 1000000 in
theorem rdR_go (hk : Seen w ge gs ga s a 0) (hs : s.size ≤ 140737488355320) (h : a + 4 ≤ s.size) (N : Nat) (hN : accN (s.data.toList.drop a) 4 = N) (b : Bool) (hb : b = decide (0 ≤ m ∧ m < (N : Int))) :
    Calls Try.prog 61 #[.int .i64 m, .pointer (some ⟨ge, 0, none⟩), .pointer (some ⟨gs, 0, none⟩), .pointer (some ⟨ga, 0, none⟩)] w fun y w' => y = .returned (.int .i64 (if b then 0 else (N : Int))) ∧ Seen w' ge gs ga s (a + 4) (if b then 4 else 0) ∧ KeptBut2 w w' ge ga := by
  have HK := Lib.hid hk
  have HNB : Hid (N < 4294967296) := by show N < _; rw [← hN]; exact accN_lt _ 4
  have hn4 := accN4 (s.data.toList.drop a)
  rw [show (s.data.toList.drop a).getD 0 0 = s[a] from getD_drop s a 0 (by omega), getD_drop s a 1 (by omega), getD_drop s a 2 (by omega), getD_drop s a 3 (by omega), hN] at hn4
  have HN4 := Lib.hid hn4
  clear hn4 hN
  have k0 : w.cell? ⟨ge, 0, none⟩ = some (.int .i64 0) := hk.he.cell 0
  have k1 : w.cell? ⟨gs, 0, none⟩ = some (.string s) := hk.hs.cell 0
  have k2 : w.cell? ⟨ga, 0, none⟩ = some (.int .i64 a) := hk.ha.cell 0
  have f0 : w.frozen? ⟨ge, 0, none⟩ = false := hk.he.frozen 0
  have f2 : w.frozen? ⟨ga, 0, none⟩ = false := hk.ha.frozen 0
  have ha0 : a < s.size := by omega
  have ha1 : a + 1 < s.size := by omega
  have ha2 : a + 2 < s.size := by omega
  have ha3 : a + 3 < s.size := by omega
  have i0 : (0 : Int) ≤ (a : Int) := by omega
  have i0' : (a : Int) < (s.size : Int) := by omega
  have i1 : (0 : Int) ≤ (a : Int) + 1 := by omega
  have i1' : (a : Int) + 1 < (s.size : Int) := by omega
  have i2 : (0 : Int) ≤ (a : Int) + 2 := by omega
  have i2' : (a : Int) + 2 < (s.size : Int) := by omega
  have i3 : (0 : Int) ≤ (a : Int) + 3 := by omega
  have i3' : (a : Int) + 3 < (s.size : Int) := by omega
  have t1 : ((a : Int) + 1).toNat = a + 1 := by omega
  have t2 : ((a : Int) + 2).toNat = a + 2 := by omega
  have t3 : ((a : Int) + 3).toNat = a + 3 := by omega
  have w1 : IntKind.i64.wrap ((a : Int) + 1) = (a : Int) + 1 := IntWalk.i64_in _ (by omega)
  have w2 : IntKind.i64.wrap ((a : Int) + 2) = (a : Int) + 2 := IntWalk.i64_in _ (by omega)
  have w3 : IntKind.i64.wrap ((a : Int) + 3) = (a : Int) + 3 := IntWalk.i64_in _ (by omega)
  obtain ⟨c1, c2⟩ := byte_lt s[a]
  obtain ⟨c3, c4⟩ := byte_lt s[a + 1]
  obtain ⟨c5, c6⟩ := byte_lt s[a + 2]
  obtain ⟨c7, c8⟩ := byte_lt s[a + 3]
  have w4 : IntKind.i64.wrap ((s[a].toNat : Int) * 16777216) = (s[a].toNat : Int) * 16777216 := IntWalk.i64_in _ (by omega)
  have w5 : IntKind.i64.wrap ((s[a + 1].toNat : Int) * 65536) = (s[a + 1].toNat : Int) * 65536 := IntWalk.i64_in _ (by omega)
  have w6 : IntKind.i64.wrap ((s[a].toNat : Int) * 16777216 + (s[a + 1].toNat : Int) * 65536) = (s[a].toNat : Int) * 16777216 + (s[a + 1].toNat : Int) * 65536 := IntWalk.i64_in _ (by omega)
  have w7 : IntKind.i64.wrap ((s[a + 2].toNat : Int) * 256) = (s[a + 2].toNat : Int) * 256 := IntWalk.i64_in _ (by omega)
  have w8 : IntKind.i64.wrap ((s[a].toNat : Int) * 16777216 + (s[a + 1].toNat : Int) * 65536 + (s[a + 2].toNat : Int) * 256) = (s[a].toNat : Int) * 16777216 + (s[a + 1].toNat : Int) * 65536 + (s[a + 2].toNat : Int) * 256 := IntWalk.i64_in _ (by omega)
  have w9 : IntKind.i64.wrap ((s[a].toNat : Int) * 16777216 + (s[a + 1].toNat : Int) * 65536 + (s[a + 2].toNat : Int) * 256 + (s[a + 3].toNat : Int)) = (s[a].toNat : Int) * 16777216 + (s[a + 1].toNat : Int) * 65536 + (s[a + 2].toNat : Int) * 256 + (s[a + 3].toNat : Int) := IntWalk.i64_in _ (by omega)
  clear hk
  go_enter Try.func61, Try.ntmps61
  go_wp2_with fail
  go_quiet (fail)
  clear w1 w2 w3 w4 w5 w6 w7 w8 w9
  try rw [IntWalk.wrap64_in ((s[a + 3].toNat : Nat) : Int) ⟨by omega, by omega⟩]
  try rw [IntWalk.wrap64_in ((s[a].toNat : Int) * 16777216 + (s[a + 1].toNat : Int) * 65536 + (s[a + 2].toNat : Int) * 256 + (s[a + 3].toNat : Int)) ⟨by omega, by omega⟩]
  rw [← HN4.out]
  obtain ⟨w', hw'⟩ : ∃ w', w' = w.drewN nq := ⟨_, rfl⟩
  rw [← hw']
  have HK2 : Hid (Seen w' ge gs ga s a 0) := by rw [hw']; exact ⟨HK.out.he.drewN nq, HK.out.hs.drewN nq, HK.out.ha.drewN nq, HK.out.n1, HK.out.n2, HK.out.n3⟩
  have HW : Hid (KeptBut2 w w' ge ga) := by rw [hw']; exact KeptBut2.drewN _ _ _ _
  clear hw' k0 k1 k2 f0 f2 HN4
  have hnb := HNB.out
  have k0 : w'.cell? ⟨ge, 0, none⟩ = some (.int .i64 0) := HK2.out.he.cell 0
  have k2 : w'.cell? ⟨ga, 0, none⟩ = some (.int .i64 a) := HK2.out.ha.cell 0
  have f0 : w'.frozen? ⟨ge, 0, none⟩ = false := HK2.out.he.frozen 0
  have f2 : w'.frozen? ⟨ga, 0, none⟩ = false := HK2.out.ha.frozen 0
  have hne : ge ≠ ga := HK2.out.n2
  have hne2 : ga ≠ ge := fun h => hne h.symm
  by_cases hm : 0 ≤ m
  · by_cases hn : m < (N : Int)
    · obtain rfl : b = true := by rw [hb]; exact decide_eq_true ⟨hm, hn⟩
      clear hb
      go_wp2_with fail
      go_ret
      exact ⟨rfl, ⟨(HK2.out.he.far (by exact hne) _).set_ 0 _, (HK2.out.hs.far (by exact HK2.out.n3) _).far (by exact fun h => HK2.out.n1 h.symm) _, (HK2.out.ha.set_ 0 _).far (by exact hne2) _, HK2.out.n1, HK2.out.n2, HK2.out.n3⟩, (HW.out.tr (KeptBut2.set2 _ _ _ _ _)).tr (KeptBut2.set1 _ _ _ _ _)⟩
    · obtain rfl : b = false := by rw [hb]; exact decide_eq_false (fun h => hn h.2)
      clear hb
      go_wp2_with fail
      go_ret
      exact ⟨rfl, ⟨HK2.out.he.far (by exact hne) _, HK2.out.hs.far (by exact HK2.out.n3) _, HK2.out.ha.set_ 0 _, HK2.out.n1, HK2.out.n2, HK2.out.n3⟩, HW.out.tr (KeptBut2.set2 _ _ _ _ _)⟩
  · obtain rfl : b = false := by rw [hb]; exact decide_eq_false (fun h => hm h.1)
    have hmd : decide (0 ≤ m) = false := decide_eq_false hm
    clear hb
    go_wp2_with fail
    go_ret
    exact ⟨rfl, ⟨HK2.out.he.far (by exact hne) _, HK2.out.hs.far (by exact HK2.out.n3) _, HK2.out.ha.set_ 0 _, HK2.out.n1, HK2.out.n2, HK2.out.n3⟩, HW.out.tr (KeptBut2.set2 _ _ _ _ _)⟩
end
end Go.Proofs.Ytahcgajipnkojaa
