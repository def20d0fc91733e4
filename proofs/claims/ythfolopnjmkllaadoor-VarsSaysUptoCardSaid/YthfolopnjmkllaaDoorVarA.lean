/- Walks: vars.one, vars.bare, vars.only. -/
import Derived.Test.YthfolopnjmkllaaDoorPrA
import Derived.Test.YthfolopnjmkllaaDoorFdB
import Derived.Deep.CutBlock
import Derived.Test.YthfolopnjmkllaaDoorTxtA
import Derived.Test.YthfolopnjmkllaaDoorOS
namespace Go.Proofs.YthfolopnjmkllaaDoor
open Go.RowKit
set_option linter.unusedVariables false
set_option linter.unusedSimpArgs false

def bareL (l : List Fd) : List Fd := l.map fun f => ⟨f.n, f.n⟩
def onlyB (name : ByteArray) (f : Fd) : Bool := name.toList.isEmpty || (f.n.toList == name.toList)
def onlyL (name : ByteArray) (l : List Fd) : List Fd := l.filter (onlyB name)
theorem bareL_take {l : List Fd} {k : Nat} (hk : k < l.length) : bareL (l.take (k + 1)) = bareL (l.take k) ++ [⟨l[k].n, l[k].n⟩] := by
  unfold bareL; rw [List.take_add_one, List.getElem?_eq_getElem hk, List.map_append]; rfl
theorem onlyL_yes {name : ByteArray} {l : List Fd} {k : Nat} (hk : k < l.length) (h : onlyB name l[k] = true) : onlyL name (l.take (k + 1)) = onlyL name (l.take k) ++ [l[k]] := by
  unfold onlyL; rw [List.take_add_one, List.getElem?_eq_getElem hk, List.filter_append]; simp [h]
theorem onlyL_no {name : ByteArray} {l : List Fd} {k : Nat} (hk : k < l.length) (h : onlyB name l[k] = false) : onlyL name (l.take (k + 1)) = onlyL name (l.take k) := by
  unfold onlyL; rw [List.take_add_one, List.getElem?_eq_getElem hk, List.filter_append]; simp [h]
theorem onlyL_le (name : ByteArray) (l : List Fd) : (onlyL name l).length ≤ l.length := List.length_filter_le _ _
theorem one_any (s : ByteArray) (w : World) :
    Calls Tryd.prog 14 #[.string s] w fun e w' => ∃ v, e = .returned v ∧ OP 34 w' w.heap.size v [⟨ByteArray.empty, s⟩] ∧ Below w.heap.size w w' := by
  go_enter Tryd.func14, Tryd.ntmps14
  go_wp2_with fail
  go_ret
  exact ⟨_, rfl, World.ownsRow_lit (size := 2) w #[.string ByteArray.empty, .string s] 1 (Nat.le_refl _) (by unfold maxLen; omega) rfl, (Below.refl _ _).alloc (Nat.le_refl _) _⟩
set_option maxHeartbeats 1000000 in
theorem bare_any (l : List Fd) (A : Option Addr) (cap B : Nat) (w : World) (hf : FdR w B A cap l) (hl : l.length ≤ 1048577) (hB : B ≤ w.heap.size) :
    Calls Tryd.prog 18 #[.slice A l.length cap] w fun e w' => ∃ v, e = .returned v ∧ OP 34 w' w.heap.size v (bareL l) ∧ Below w.heap.size w w' := by
  have HF := Lib.hid hf
  obtain ⟨hcp1, hcp2⟩ : l.length ≤ cap ∧ cap ≤ 9223372036854775807 := ⟨hf.2.1, hf.2.2.1⟩
  clear hf
  go_enter Tryd.func18, Tryd.ntmps18
  go_wp2_with fail
  go_loopw [3, 8] (fun v i wr => ∃ k : Nat, k ≤ l.length ∧ i = .int .i64 k ∧ OP 34 wr w.heap.size v (bareL (l.take k)) ∧ Below w.heap.size w wr) (fun _ i _ => l.length - (intOf i).toNat)
  case atStart => exact ⟨0, by omega, rfl, OP.nil _ _ _, Below.refl _ _⟩
  case round =>
    obtain ⟨k, hk, rfl, ho, hb⟩ := hrel
    obtain ⟨A5, c5, rfl⟩ := ho.form
    have HO := Lib.hid ho
    have HB := Lib.hid hb
    by_cases hlt : k < l.length
    · obtain ⟨ad, rfl, hab, x0, x1, z0, z1⟩ := fd_cells (HF.out.below (hb.mono hB)) hlt
      have HL : Hid (bareL (l.take (k + 1)) = bareL (l.take k) ++ [⟨l[k].n, l[k].n⟩]) := Lib.hid (bareL_take hlt)
      have hgl : (bareL (l.take k)).length ≤ 1048577 := by unfold bareL; rw [List.length_map, List.length_take]; omega
      obtain ⟨G, hG⟩ : ∃ G, G = bareL (l.take k) := ⟨_, rfl⟩
      rw [← hG] at HO HL hgl ⊢
      obtain ⟨f, hfe⟩ : ∃ f, f = l[k] := ⟨_, rfl⟩
      rw [← hfe] at x0 x1 z0 z1 HL
      have hal := (Below.refl wr.heap.size wr).alloc (Nat.le_refl _) (.cells #[.string f.n, .string f.v] 34)
      have HO2 := Lib.hid (HO.out.kept hal)
      have HB2 := Lib.hid (HB.out.trans (hal.mono HB.out.size))
      have hk2 := Blk.new wr 34 #[.string f.n, .string f.v]
      clear hG hfe hb ho hal
      go_upto_region 5 with fail
      obtain ⟨V, hV⟩ : ∃ V, wr.alloc (.cells #[.string f.n, .string f.v] 34) = V := ⟨_, rfl⟩
      rw [hV] at HO2 HB2 hk2 ⊢
      have y0 : V.cell? ⟨wr.heap.size, 0, none⟩ = some (.string f.n) := hk2.cell 0
      clear hV hk2 x0 x1
      go_wp2_with (at_builtin; refine wpL_appP infoArg Tryd.underlying29 rfl (.tmp 12) (.tmp 18) rfl HO2.out rfl ⟨f.n, f.n⟩ rfl rfl (by omega) HB2.out.size ?_; intro v5 w5 ho5 _ hb5)
      have HO5 : Hid (OP 34 w5 w.heap.size v5 (bareL (l.take (k + 1)))) := Lib.hid (by rw [HL.out]; exact ho5)
      have HB5 := Lib.hid (HB2.out.trans hb5)
      clear ho5 hb5
      go_wp2_with fail
      go_roundw
      case rel => exact ⟨k + 1, by omega, by go_num, HO5.out, HB5.out⟩
      case measure => simp [intOf]; omega
    · obtain rfl : k = l.length := by omega
      have HO2 : Hid (OP 34 wr w.heap.size (.slice A5 (bareL (l.take l.length)).length c5) (bareL l)) := Lib.hid (by have := HO.out; rw [List.take_length] at this ⊢; exact this)
      clear hb ho
      go_wp2_with fail
      go_ret
      exact ⟨_, rfl, HO2.out, HB.out⟩
set_option maxHeartbeats 1000000 in
theorem only_any (l : List Fd) (name : ByteArray) (A : Option Addr) (cap B : Nat) (w : World) (hf : FdR w B A cap l) (hl : l.length ≤ 1048577) (hB : B ≤ w.heap.size) (hn : name.size ≤ 1048576) :
    Calls Tryd.prog 17 #[.slice A l.length cap, .string name] w fun e w' => ∃ v, e = .returned v ∧ OP 34 w' w.heap.size v (onlyL name l) ∧ Below w.heap.size w w' := by
  have HF := Lib.hid hf
  obtain ⟨hcp1, hcp2⟩ : l.length ≤ cap ∧ cap ≤ 9223372036854775807 := ⟨hf.2.1, hf.2.2.1⟩
  clear hf
  go_enter Tryd.func17, Tryd.ntmps17
  go_wp2_with fail
  go_loopw [5, 10] (fun v i wr => ∃ k : Nat, k ≤ l.length ∧ i = .int .i64 k ∧ OP 34 wr w.heap.size v (onlyL name (l.take k)) ∧ Below w.heap.size w wr) (fun _ i _ => l.length - (intOf i).toNat)
  case atStart => exact ⟨0, by omega, rfl, OP.nil _ _ _, Below.refl _ _⟩
  case round =>
    obtain ⟨k, hk, rfl, ho, hb⟩ := hrel
    obtain ⟨A5, c5, rfl⟩ := ho.form
    have HO := Lib.hid ho
    have HB := Lib.hid hb
    by_cases hlt : k < l.length
    · obtain ⟨ad, rfl, hab, x0, x1, z0, z1⟩ := fd_cells (HF.out.below (hb.mono hB)) hlt
      have HY : Hid (onlyB name l[k] = true → onlyL name (l.take (k + 1)) = onlyL name (l.take k) ++ [l[k]]) := Lib.hid (onlyL_yes hlt)
      have HN : Hid (onlyB name l[k] = false → onlyL name (l.take (k + 1)) = onlyL name (l.take k)) := Lib.hid (onlyL_no hlt)
      have hgl : (onlyL name (l.take k)).length ≤ 1048577 := Nat.le_trans (onlyL_le _ _) (by rw [List.length_take]; omega)
      obtain ⟨G, hG⟩ : ∃ G, G = onlyL name (l.take k) := ⟨_, rfl⟩
      rw [← hG] at HO HY HN hgl ⊢
      obtain ⟨f, hfe⟩ : ∃ f, f = l[k] := ⟨_, rfl⟩
      rw [← hfe] at x0 x1 z0 z1 HY HN
      have hal := (Below.refl wr.heap.size wr).alloc (Nat.le_refl _) (.cells #[.string f.n, .string f.v] 34)
      have HO2 := Lib.hid (HO.out.kept hal)
      have HB2 := Lib.hid (HB.out.trans (hal.mono HB.out.size))
      have hk2 := Blk.new wr 34 #[.string f.n, .string f.v]
      clear hG hfe hb ho hal
      go_upto_region 5 with fail
      obtain ⟨V, hV⟩ : ∃ V, wr.alloc (.cells #[.string f.n, .string f.v] 34) = V := ⟨_, rfl⟩
      rw [hV] at HO2 HB2 hk2 ⊢
      have y0 : V.cell? ⟨wr.heap.size, 0, none⟩ = some (.string f.n) := hk2.cell 0
      have y1 : V.cell? ⟨wr.heap.size, 1, none⟩ = some (.string f.v) := hk2.cell 1
      clear hV hk2 x0 x1
      by_cases h1 : name.toList = []
      · have e1 : name.toList.isEmpty = true := List.isEmpty_iff.2 h1
        have HL := Lib.hid (HY.out (by unfold onlyB; rw [e1]; rfl))
        go_wp2_with (at_builtin; refine wpL_appP infoArg Tryd.underlying29 rfl (.tmp 22) (.tmp 24) rfl HO2.out rfl f rfl rfl (by omega) HB2.out.size ?_; intro v5 w5 ho5 _ hb5)
        have HO5 : Hid (OP 34 w5 w.heap.size v5 (onlyL name (l.take (k + 1)))) := Lib.hid (by rw [HL.out]; exact ho5)
        have HB5 := Lib.hid (HB2.out.trans hb5)
        clear ho5 hb5
        go_wp2_with fail
        go_roundw
        case rel => exact ⟨k + 1, by omega, by go_num, HO5.out, HB5.out⟩
        case measure => simp [intOf]; omega
      · have e1 : name.toList.isEmpty = false := by cases h : name.toList.isEmpty; rfl; exact absurd (List.isEmpty_iff.1 h) h1
        cases e2 : (f.n.toList == name.toList) with
        | true =>
          have HL := Lib.hid (HY.out (by unfold onlyB; rw [e2, Bool.or_true]))
          go_wp2_with (at_builtin; refine wpL_appP infoArg Tryd.underlying29 rfl (.tmp 22) (.tmp 24) rfl HO2.out rfl f rfl rfl (by omega) HB2.out.size ?_; intro v5 w5 ho5 _ hb5)
          have HO5 : Hid (OP 34 w5 w.heap.size v5 (onlyL name (l.take (k + 1)))) := Lib.hid (by rw [HL.out]; exact ho5)
          have HB5 := Lib.hid (HB2.out.trans hb5)
          clear ho5 hb5
          go_wp2_with fail
          go_roundw
          case rel => exact ⟨k + 1, by omega, by go_num, HO5.out, HB5.out⟩
          case measure => simp [intOf]; omega
        | false =>
          have HL := Lib.hid (HN.out (by unfold onlyB; rw [e1, e2]; rfl))
          go_wp2_with fail
          go_roundw
          case rel => exact ⟨k + 1, by omega, by go_num, by rw [HL.out]; exact HO2.out, HB2.out⟩
          case measure => simp [intOf]; omega
    · obtain rfl : k = l.length := by omega
      have HO2 : Hid (OP 34 wr w.heap.size (.slice A5 (onlyL name (l.take l.length)).length c5) (onlyL name l)) := Lib.hid (by have := HO.out; rw [List.take_length] at this ⊢; exact this)
      clear hb ho
      go_wp2_with fail
      go_ret
      exact ⟨_, rfl, HO2.out, HB.out⟩
end Go.Proofs.YthfolopnjmkllaaDoor
