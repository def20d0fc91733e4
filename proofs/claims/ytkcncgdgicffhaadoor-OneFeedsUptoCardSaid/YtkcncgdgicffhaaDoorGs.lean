/- Walks: head.Get, wickref.Get; slices.Equal on two lists of the same strings. -/
import Derived.Test.YtkcncgdgicffhaaDoorGh
import Derived.Test.YtkcncgdgicffhaaDoorGl
import Derived.Test.YtkcncgdgicffhaaDoorGq
import Derived.Test.YtkcncgdgicffhaaDoorShelf
import Derived.Test.YtkcncgdgicffhaaDoorGi
namespace Go.Proofs.YtkcncgdgicffhaaDoor
open Go.RowKit
set_option linter.unusedVariables false
set_option linter.unusedSimpArgs false

/-- is a field of a name? -/
def sameN (name : ByteArray) (f : Fd) : Bool := f.n.data.toList.map lowB == name.data.toList.map lowB
/-- the values of a name's fields -/
def getL (fs : List Fd) (name : ByteArray) : List ByteArray := (fs.filter (sameN name)).map Fd.v
theorem getL_yes {fs : List Fd} {name : ByteArray} {k : Nat} (h : k < fs.length) (h2 : sameN name fs[k] = true) : getL (fs.take (k + 1)) name = getL (fs.take k) name ++ [fs[k].v] := by
  unfold getL; rw [List.take_succ_eq_append_getElem h, List.filter_append, List.map_append]; simp [h2]
theorem getL_no {fs : List Fd} {name : ByteArray} {k : Nat} (h : k < fs.length) (h2 : sameN name fs[k] = false) : getL (fs.take (k + 1)) name = getL (fs.take k) name := by
  unfold getL; rw [List.take_succ_eq_append_getElem h, List.filter_append, List.map_append]; simp [h2]
theorem getL_len (fs : List Fd) (name : ByteArray) : (getL fs name).length ≤ fs.length := by
  unfold getL; rw [List.length_map]; exact List.length_filter_le _ _
theorem same_str {name : ByteArray} {f : Fd} {b : Bool} (h : sameN name f = b) : ((str (f.n.data.toList.map lowB)).toList == (str (name.data.toList.map lowB)).toList) = b := by
  rw [Lib.toList_data, Lib.toList_data]; exact h

section
variable (m t name : ByteArray) (fs : List Fd) (A : Option Addr) (cap B : Nat) (w : World)
set_option maxHeartbeats 2000000 in
theorem get_any (hn : name.size ≤ 1048576) (hf : FdR w B A cap fs) (hfl : fs.length ≤ 1048576) (hB : B ≤ w.heap.size) :
    Calls Tryd.prog 42 #[.agg #[.string m, .string t, .slice A fs.length cap], .string name] w fun e w' => ∃ v, e = .returned v ∧ OS w' w.heap.size v (getL fs name) ∧ Below w.heap.size w w' := by
  obtain ⟨W, hW⟩ : ∃ W, W = w.alloc (.cells #[.string m, .string t, .slice A fs.length cap] 24) := ⟨_, rfl⟩
  have hWb : Below w.heap.size w W := by rw [hW]; exact (Below.refl _ _).alloc (Nat.le_refl _) _
  have hWlt : w.heap.size < W.heap.size := by rw [hW]; simp
  have HF := Lib.hid (hf.below (hWb.mono hB))
  obtain ⟨hcp1, hcp2⟩ : fs.length ≤ cap ∧ cap ≤ 9223372036854775807 := ⟨hf.2.1, hf.2.2.1⟩
  have HW := Lib.hid hW
  have HWB := Lib.hid hWb
  have CN := Lib.hid (fun w => lower_any name w (by omega))
  obtain ⟨U, hU⟩ : ∃ U, U = str (name.data.toList.map lowB) := ⟨_, rfl⟩
  rw [← hU] at CN
  have HU := Lib.hid hU
  clear hW hWb hf hU
  go_enter Tryd.func42, Tryd.ntmps42
  go_wp2_with fail
  rw [← HW.out]
  go_loopw [5, 11] (fun v i wr => ∃ k : Nat, k ≤ fs.length ∧ i = .int .i64 k ∧ OS wr W.heap.size v (getL (fs.take k) name) ∧ Below W.heap.size W wr) (fun _ i _ => fs.length - (intOf i).toNat)
  case atStart => exact ⟨0, by omega, rfl, OS.nil _ _, Below.refl _ _⟩
  case round =>
    obtain ⟨k, hk, rfl, ho, hb⟩ := hrel
    have HO := Lib.hid ho
    have HB := Lib.hid hb
    have hz := hb.size
    by_cases hlt : k < fs.length
    · obtain ⟨ad, rfl, hab, x0, x1, z0, z1⟩ := fd_cells (HF.out.below (hb.mono (by omega))) hlt
      have hgl : (getL (fs.take k) name).length ≤ 1048576 := by have := getL_len (fs.take k) name; rw [List.length_take] at this; omega
      obtain ⟨G, hG⟩ : ∃ G, G = getL (fs.take k) name := ⟨_, rfl⟩
      rw [← hG] at HO hgl
      have HG := Lib.hid hG
      clear hb ho hG
      obtain ⟨f, hfe⟩ : ∃ f, f = fs[k] := ⟨_, rfl⟩
      rw [← hfe] at x0 x1 z0 z1
      have HFE := Lib.hid hfe
      clear hfe
      have CF := Lib.hid (fun w => lower_any f.n w (by omega))
      obtain ⟨V, hV⟩ : ∃ V, V = str (f.n.data.toList.map lowB) := ⟨_, rfl⟩
      rw [← hV] at CF
      obtain ⟨A5, c5, rfl⟩ := HO.out.form
      cases hs : sameN name f with
      | true =>
        have es : (V.toList == U.toList) = true := by rw [hV, HU.out]; exact same_str hs
        have HN : Hid (getL (fs.take (k + 1)) name = G ++ [f.v]) := by show _ = _; rw [HG.out, HFE.out]; exact getL_yes hlt (by rw [← HFE.out]; exact hs)
        clear hV hs
        go_wp2_with fail
        refine (CF.out _).mono ?_
        rintro e w1 ⟨rfl, hb1⟩
        have HK1 := Lib.hid ((Blk.new wr 108 #[.string f.n, .string f.v]).below hb1 (by simp))
        have HB1 := Lib.hid ((HB.out.alloc hz _).trans (hb1.mono (by simp; omega)))
        have HO1 := Lib.hid ((HO.out.alloc _).kept hb1)
        have hlt1 : wr.heap.size < w1.heap.size := HK1.out.lt
        clear hb1
        go_wp2_with fail
        refine (CN.out _).mono ?_
        rintro e w2 ⟨rfl, hb2⟩
        have HK2 := Lib.hid (HK1.out.below hb2 hlt1)
        have k1 : w2.cell? ⟨wr.heap.size, 1, none⟩ = some (.string f.v) := HK2.out.cell 1
        have HB2 := Lib.hid (HB1.out.trans (hb2.mono (by omega)))
        have HO2 := Lib.hid (HO1.out.kept hb2)
        have hlt2 : wr.heap.size < w2.heap.size := HK2.out.lt
        clear hb2
        go_wp2_with (at_builtin; refine wpL_appS rfl (.tmp 21) (.tmp 24) rfl HO2.out rfl f.v rfl (by omega) (by omega) ?_; intro v3 w3 ho3 hg3 hb3; have HO3 := Lib.hid ho3; have HB3 := Lib.hid (HB2.out.trans hb3); clear ho3 hg3 hb3)
        go_roundw
        case rel => exact ⟨k + 1, by omega, by go_num, by rw [HN.out]; exact HO3.out, HB3.out⟩
        case measure => simp [intOf]; omega
      | false =>
        have es : (V.toList == U.toList) = false := by rw [hV, HU.out]; exact same_str hs
        have HN : Hid (getL (fs.take (k + 1)) name = G) := by show _ = _; rw [HG.out]; exact getL_no hlt (by rw [← HFE.out]; exact hs)
        clear hV hs
        go_wp2_with fail
        refine (CF.out _).mono ?_
        rintro e w1 ⟨rfl, hb1⟩
        have HB1 := Lib.hid ((HB.out.alloc hz _).trans (hb1.mono (by simp; omega)))
        have HO1 := Lib.hid ((HO.out.alloc _).kept hb1)
        have hlt1 : wr.heap.size < w1.heap.size := by have := hb1.size; simp at this; omega
        clear hb1
        go_wp2_with fail
        refine (CN.out _).mono ?_
        rintro e w2 ⟨rfl, hb2⟩
        have HB2 := Lib.hid (HB1.out.trans (hb2.mono (by omega)))
        have HO2 := Lib.hid (HO1.out.kept hb2)
        clear hb2
        go_wp2_with fail
        go_roundw
        case rel => exact ⟨k + 1, by omega, by go_num, by rw [HN.out]; exact HO2.out, HB2.out⟩
        case measure => simp [intOf]; omega
    · obtain rfl : k = fs.length := by omega
      rw [List.take_length] at HO
      clear hb ho
      obtain ⟨A5, c5, rfl⟩ := HO.out.form
      go_wp2_with fail
      go_ret
      exact ⟨.slice A5 (getL fs name).length c5, rfl, HO.out.mono (by omega), HWB.out.trans (HB.out.mono (by omega))⟩

set_option maxHeartbeats 2000000 in
theorem Get_any (hn : name.size ≤ 1048576) (hf : FdR w B A cap fs) (hfl : fs.length ≤ 1048576) (hB : B ≤ w.heap.size) :
    Calls Tryd.prog 47 #[.agg #[.string m, .string t, .slice A fs.length cap], .string name] w fun e w' => ∃ v, e = .returned v ∧ OS w' w.heap.size v (getL fs name) ∧ Below w.heap.size w w' := by
  obtain ⟨W, hW⟩ : ∃ W, W = w.alloc (.cells #[.string m, .string t, .slice A fs.length cap] 24) := ⟨_, rfl⟩
  have hWb : Below w.heap.size w W := by rw [hW]; exact (Below.refl _ _).alloc (Nat.le_refl _) _
  have hWlt : w.heap.size < W.heap.size := by rw [hW]; simp
  have hK : Blk W w.heap.size 24 #[.string m, .string t, .slice A fs.length cap] := by rw [hW]; exact Blk.new _ _ _
  have HK := Lib.hid hK
  have HF := Lib.hid (hf.below (hWb.mono hB))
  obtain ⟨hcp1, hcp2⟩ : fs.length ≤ cap ∧ cap ≤ 9223372036854775807 := ⟨hf.2.1, hf.2.2.1⟩
  have HW := Lib.hid hW
  have HWB := Lib.hid hWb
  have CN := Lib.hid (fun w => Low_any name w (by omega))
  obtain ⟨U, hU⟩ : ∃ U, U = str (name.data.toList.map lowB) := ⟨_, rfl⟩
  rw [← hU] at CN
  have HU := Lib.hid hU
  clear hW hWb hf hU hK
  go_enter Tryd.func47, Tryd.ntmps47
  go_wp2_with fail
  rw [← HW.out]
  go_loopw [5, 6] (fun v i wr => ∃ k : Nat, k ≤ fs.length ∧ i = .int .i64 k ∧ OS wr W.heap.size v (getL (fs.take k) name) ∧ Below W.heap.size W wr) (fun _ i _ => fs.length - (intOf i).toNat)
  case atStart => exact ⟨0, by omega, rfl, OS.nil _ _, Below.refl _ _⟩
  case round =>
    obtain ⟨k, hk, rfl, ho, hb⟩ := hrel
    have HO := Lib.hid ho
    have HB := Lib.hid hb
    have hz := hb.size
    have k2 : wr.cell? ⟨w.heap.size, 2, none⟩ = some (.slice A fs.length cap) := (HK.out.below hb hWlt).cell 2
    by_cases hlt : k < fs.length
    · obtain ⟨ad, rfl, hab, x0, x1, z0, z1⟩ := fd_cells (HF.out.below (hb.mono (by omega))) hlt
      have hgl : (getL (fs.take k) name).length ≤ 1048576 := by have := getL_len (fs.take k) name; rw [List.length_take] at this; omega
      obtain ⟨G, hG⟩ : ∃ G, G = getL (fs.take k) name := ⟨_, rfl⟩
      rw [← hG] at HO hgl
      have HG := Lib.hid hG
      clear hb ho hG
      obtain ⟨f, hfe⟩ : ∃ f, f = fs[k] := ⟨_, rfl⟩
      rw [← hfe] at x0 x1 z0 z1
      have HFE := Lib.hid hfe
      clear hfe
      have CF := Lib.hid (fun w => Low_any f.n w (by omega))
      obtain ⟨V, hV⟩ : ∃ V, V = str (f.n.data.toList.map lowB) := ⟨_, rfl⟩
      rw [← hV] at CF
      obtain ⟨A5, c5, rfl⟩ := HO.out.form
      cases hs : sameN name f with
      | true =>
        have es : (V.toList == U.toList) = true := by rw [hV, HU.out]; exact same_str hs
        have HN : Hid (getL (fs.take (k + 1)) name = G ++ [f.v]) := by show _ = _; rw [HG.out, HFE.out]; exact getL_yes hlt (by rw [← HFE.out]; exact hs)
        clear hV hs
        go_wp2_with fail
        refine (CF.out _).mono ?_
        rintro e w1 ⟨rfl, q1, rfl⟩
        go_wp2_with fail
        refine (CN.out _).mono ?_
        rintro e w2 ⟨rfl, q2, rfl⟩
        have HO2 := Lib.hid (HO.out.drewN (q1 + q2))
        have HB2 := Lib.hid (below_drewN HB.out (q1 + q2))
        go_wp2_with (at_builtin; refine wpL_appS rfl (.tmp 24) (.tmp 31) rfl HO2.out rfl f.v rfl (by omega) (by first | omega | (show _ ≤ wr.heap.size; omega)) ?_; intro v3 w3 ho3 hg3 hb3; have HO3 := Lib.hid ho3; have HB3 := Lib.hid (HB2.out.trans hb3); clear ho3 hg3 hb3)
        go_roundw
        case rel => exact ⟨k + 1, by omega, by go_num, by rw [HN.out]; exact HO3.out, HB3.out⟩
        case measure => simp [intOf]; omega
      | false =>
        have es : (V.toList == U.toList) = false := by rw [hV, HU.out]; exact same_str hs
        have HN : Hid (getL (fs.take (k + 1)) name = G) := by show _ = _; rw [HG.out]; exact getL_no hlt (by rw [← HFE.out]; exact hs)
        clear hV hs
        go_wp2_with fail
        refine (CF.out _).mono ?_
        rintro e w1 ⟨rfl, q1, rfl⟩
        go_wp2_with fail
        refine (CN.out _).mono ?_
        rintro e w2 ⟨rfl, q2, rfl⟩
        go_wp2_with fail
        go_roundw
        case rel => exact ⟨k + 1, by omega, by go_num, by rw [HN.out]; exact HO.out.drewN _, below_drewN HB.out _⟩
        case measure => simp [intOf]; omega
    · obtain rfl : k = fs.length := by omega
      rw [List.take_length] at HO
      clear hb ho
      obtain ⟨A5, c5, rfl⟩ := HO.out.form
      go_wp2_with fail
      go_ret
      exact ⟨.slice A5 (getL fs name).length c5, rfl, HO.out.mono (by omega), HWB.out.trans (HB.out.mono (by omega))⟩
end

end Go.Proofs.YtkcncgdgicffhaaDoor
