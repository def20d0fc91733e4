/- Walks: audit.All, wickref.Records. -/
import Derived.Test.YtahcgajipnkojaaArdD
import Derived.Test.YtahcgajipnkojaaArdG
import Derived.Test.YtahcgajipnkojaaArdH
namespace Go.Proofs.Ytahcgajipnkojaa
open Go.RowKit
set_option linter.unusedVariables false
set_option linter.unusedSimpArgs false

theorem decode_any (s : ByteArray) (w : World) (hs : s.size ≤ 1048576) : Calls Try.prog 18 #[.string s] w (DecRes s.data.toList w) := by
  by_cases h0 : s.size = 0
  · exact decode_empty s w h0
  · by_cases h : s[0] = 82
    · exact decode_go s w hs (by omega) h
    · exact decode_head s w (by omega) h
theorem read_any (s : ByteArray) (w : World) (hs : s.size ≤ 1048576) : Calls Try.prog 19 #[.string s] w (DecRes s.data.toList w) := by
  by_cases h0 : s.size = 0
  · exact read_empty s w h0
  · by_cases h : s[0] = 82
    · exact read_go s w hs (by omega) h
    · exact read_head s w (by omega) h

/-- all records: the error, the list -/
def allG : Nat → List Rc → List UInt8 → Int × List Rc
  | 0, acc, _ => (0, acc)
  | k + 1, acc, l => if l = [] then (0, acc) else if (decF l).1 ≠ 0 then ((decF l).1, []) else allG k (acc ++ [(decF l).2.1]) (l.drop (decF l).2.2)
theorem allG_end (k : Nat) (acc : List Rc) : allG k acc [] = (0, acc) := by cases k <;> simp [allG]
theorem allG_bad {k : Nat} {acc : List Rc} {l : List UInt8} {E : Int} {r : Rc} {n : Nat} (hl : l ≠ []) (hk : l.length ≤ k) (h : decF l = (E, r, n)) (hE : E ≠ 0) : allG k acc l = (E, []) := by
  obtain ⟨k, rfl⟩ : ∃ j, k = j + 1 := ⟨k - 1, by have := List.length_pos_iff.2 hl; omega⟩
  rw [allG, if_neg hl, h, if_pos hE]
theorem allG_more {k : Nat} {acc : List Rc} {l : List UInt8} {r : Rc} {n : Nat} (hl : l ≠ []) (hk : l.length ≤ k) (h : decF l = (0, r, n)) : allG k acc l = allG (k - 1) (acc ++ [r]) (l.drop n) := by
  obtain ⟨k, rfl⟩ : ∃ j, k = j + 1 := ⟨k - 1, by have := List.length_pos_iff.2 hl; omega⟩
  rw [allG, if_neg hl, h, if_neg (by simp)]; rfl
def AllRes (l : List UInt8) (w : World) (e : Ending) (w' : World) : Prop := Below w.heap.size w w' ∧
  ∃ v ps, e = .returned (.tuple #[v, .int .i64 (allG l.length [] l).1]) ∧ RL w' w.heap.size v (allG l.length [] l).2 ps
def slen : Value → Nat
  | .string s => s.size
  | _ => 0
theorem RL.form {w : World} {B : Nat} {v : Value} {rs : List Rc} {ps : List (Option Addr × Nat)} (h : RL w B v rs ps) : ∃ A c, v = .slice A rs.length c := by
  rcases h.own.2 with ⟨rfl, h2⟩ | ⟨g, c, cur, rfl, _⟩
  · exact ⟨none, 0, by rw [h2]⟩
  · exact ⟨_, _, rfl⟩
def RecBox (c o b s : Int) (A : Option Addr) (n cap : Nat) (t : ByteArray) : Obj := .cells #[.int .i64 c, .int .i64 o, .int .i64 b, .int .i64 s, .slice A n cap, .string t] 32

set_option maxHeartbeats 2000000 in
theorem all_any (s : ByteArray) (w : World) (hs : s.size ≤ 1048576) : Calls Try.prog 20 #[.string s] w (AllRes s.data.toList w) := by
  go_enter Try.func20, Try.ntmps20
  go_wp2_with fail
  go_loopw [0, 4] (fun x v wr => ∃ (S : ByteArray) (acc : List Rc) (ps : List (Option Addr × Nat)) (k : Nat), x = .string S ∧ acc.length + S.size ≤ s.size ∧ S.size ≤ k ∧ Hid (allG s.data.toList.length [] s.data.toList = allG k acc S.data.toList) ∧ RL wr w.heap.size v acc ps ∧ Below w.heap.size w wr) (fun x _ _ => slen x)
  case atStart => exact ⟨s, [], [], s.data.toList.length, rfl, by simp, by rw [lst_len]; omega, rfl, RL.nil _ _, Below.refl _ _⟩
  case round =>
    obtain ⟨S, acc, ps, k, rfl, hS, hk, HG, hRL, hB⟩ := hrel
    have HRL := Lib.hid hRL
    have HB := Lib.hid hB
    clear hRL hB
    by_cases hz : S.size = 0
    · have hl : S.data.toList = [] := List.eq_nil_of_length_eq_zero (by rw [lst_len]; exact hz)
      have HR : Hid (allG s.data.toList.length [] s.data.toList = (0, acc)) := by show _ = _; rw [HG.out, hl, allG_end]
      have e1 : S.toList = [] := by rw [Lib.toList_data]; exact hl
      have e2 : S.toList.isEmpty = true := by rw [e1]; rfl
      obtain ⟨A, c, rfl⟩ := HRL.out.form
      clear hl HG
      go_wp2_with fail
      go_ret2
      exact ⟨HB.out, .slice A acc.length c, ps, by rw [HR.out]; rfl, by rw [HR.out]; exact HRL.out⟩
    · have hl : S.data.toList ≠ [] := by intro h; have := lst_len S; rw [h, List.length_nil] at this; omega
      have HL := Lib.hid hl
      have e1 : ¬ S.toList = [] := by rw [Lib.toList_data]; exact hl
      have e2 : S.toList.isEmpty = false := by rw [List.isEmpty_eq_false_iff]; exact e1
      have hpos : 0 < S.size := by omega
      have CD := Lib.hid (decode_any S wr (by omega))
      clear hl
      go_wp2_with fail
      refine CD.out.mono ?_
      rintro e w1 ⟨hb, hres⟩
      have HB1 := Lib.hid (HB.out.trans (hb.mono HB.out.size))
      have hz1 := hb.size
      have HRL1 := Lib.hid (HRL.out.below hb)
      have hzw : w.heap.size ≤ wr.heap.size := HB.out.size
      clear hb CD
      rcases hres with ⟨E, hE, hd, rfl⟩ | ⟨r, n, A, cap, hd, rfl, hOI, hn1, hn2⟩
      · have HR : Hid (allG s.data.toList.length [] s.data.toList = (E, [])) := by show _ = _; rw [HG.out]; exact allG_bad HL.out (by rw [lst_len]; omega) hd hE
        have n1 : (E != 0) = true := by rw [bne_iff_ne]; exact hE
        have n2 : (E == 0) = false := by rw [beq_eq_false_iff_ne]; exact hE
        clear hd hE HG
        unfold zrec
        go_wp2_with fail
        go_ret2
        exact ⟨HB1.out.alloc (by omega) _, .slice none 0 0, [], by rw [HR.out]; rfl, by rw [HR.out]; exact RL.nil _ _⟩
      · have HR : Hid (allG s.data.toList.length [] s.data.toList = allG (k - 1) (acc ++ [r]) (S.data.toList.drop n)) := by show _ = _; rw [HG.out]; exact allG_more HL.out (by rw [lst_len]; omega) hd
        rw [lst_len] at hn1
        obtain ⟨box, hbox⟩ : ∃ box, box = (w1.alloc (RecBox r.c r.o r.b r.s A r.ms.length cap (str r.t))) := ⟨_, rfl⟩
        have HRL2 : Hid (RL box w.heap.size u4 acc ps) := by rw [hbox]; exact HRL1.out.alloc _
        have HOI : Hid (OI box w.heap.size (.slice A r.ms.length cap) r.ms) := by rw [hbox]; exact (World.ownsRow.mono hOI hzw).alloc _
        have HB2 : Hid (Below w.heap.size w box) := by rw [hbox]; exact HB1.out.alloc (by omega) _
        have hzb : w.heap.size ≤ box.heap.size := HB2.out.size
        have HX := Lib.hid hbox
        have HSZ : Hid (box.heap.size = w1.heap.size + 1) := by show _ = _; rw [hbox]; simp
        have hn3 : (0 : Int) ≤ (n : Int) := by omega
        have hn4 : (n : Int) ≤ (S.size : Int) := by omega
        obtain ⟨S2, hS2⟩ : ∃ S2, S2 = S.extract n S.size := ⟨_, rfl⟩
        have HS2 := Lib.hid hS2
        have hS2l : S2.data.toList = S.data.toList.drop n := by rw [hS2, Lib.extract_data]; rw [List.take_of_length_le (by rw [List.length_drop, lst_len]; omega)]
        have HS2L := Lib.hid hS2l
        have hS2s : S2.size = S.size - n := by rw [← lst_len, hS2l, List.length_drop, lst_len]
        clear hd HG hbox hOI hS2 hS2l HRL1 HRL
        unfold recV
        go_wp2_with (at_builtin; (have hx := HX.out; unfold RecBox at hx; rw [← hx]; clear hx); refine wpL_appR rfl (.tmp 19) (.tmp 21) rfl HRL2.out rfl r (A, cap) HOI.out (by rw [HSZ.out]; rfl) (by omega) (by omega) rfl ?_; intro v' w2 h2 hb2; have H2 := Lib.hid h2; have HB3 := Lib.hid (HB2.out.trans hb2); clear h2 hb2)
        rw [← HS2.out]
        go_roundw
        case rel => exact ⟨S2, acc ++ [r], ps ++ [(A, cap)], k - 1, rfl, by rw [List.length_append, List.length_singleton]; omega, by omega, by show _ = _; rw [HR.out, HS2L.out], H2.out, HB3.out⟩
        case measure => simp [slen]; omega

set_option maxHeartbeats 2000000 in
theorem records_any (s : ByteArray) (w : World) (hs : s.size ≤ 1048576) : Calls Try.prog 21 #[.string s] w (AllRes s.data.toList w) := by
  go_enter Try.func21, Try.ntmps21
  go_wp2_with fail
  go_loopw [0, 4] (fun x v wr => ∃ (S : ByteArray) (acc : List Rc) (ps : List (Option Addr × Nat)) (k : Nat), x = .string S ∧ acc.length + S.size ≤ s.size ∧ S.size ≤ k ∧ Hid (allG s.data.toList.length [] s.data.toList = allG k acc S.data.toList) ∧ RL wr w.heap.size v acc ps ∧ Below w.heap.size w wr) (fun x _ _ => slen x)
  case atStart => exact ⟨s, [], [], s.data.toList.length, rfl, by simp, by rw [lst_len]; omega, rfl, RL.nil _ _, Below.refl _ _⟩
  case round =>
    obtain ⟨S, acc, ps, k, rfl, hS, hk, HG, hRL, hB⟩ := hrel
    have HRL := Lib.hid hRL
    have HB := Lib.hid hB
    clear hRL hB
    by_cases hz : S.size = 0
    · have hl : S.data.toList = [] := List.eq_nil_of_length_eq_zero (by rw [lst_len]; exact hz)
      have HR : Hid (allG s.data.toList.length [] s.data.toList = (0, acc)) := by show _ = _; rw [HG.out, hl, allG_end]
      have e1 : S.toList = [] := by rw [Lib.toList_data]; exact hl
      have e2 : S.toList.isEmpty = true := by rw [e1]; rfl
      obtain ⟨A, c, rfl⟩ := HRL.out.form
      clear hl HG
      go_wp2_with fail
      go_ret2
      exact ⟨HB.out, .slice A acc.length c, ps, by rw [HR.out]; rfl, by rw [HR.out]; exact HRL.out⟩
    · have hl : S.data.toList ≠ [] := by intro h; have := lst_len S; rw [h, List.length_nil] at this; omega
      have HL := Lib.hid hl
      have e1 : ¬ S.toList = [] := by rw [Lib.toList_data]; exact hl
      have e2 : S.toList.isEmpty = false := by rw [List.isEmpty_eq_false_iff]; exact e1
      have hpos : 0 < S.size := by omega
      have CD := Lib.hid (read_any S wr (by omega))
      clear hl
      go_wp2_with fail
      refine CD.out.mono ?_
      rintro e w1 ⟨hb, hres⟩
      have HB1 := Lib.hid (HB.out.trans (hb.mono HB.out.size))
      have hz1 := hb.size
      have HRL1 := Lib.hid (HRL.out.below hb)
      have hzw : w.heap.size ≤ wr.heap.size := HB.out.size
      clear hb CD
      rcases hres with ⟨E, hE, hd, rfl⟩ | ⟨r, n, A, cap, hd, rfl, hOI, hn1, hn2⟩
      · have HR : Hid (allG s.data.toList.length [] s.data.toList = (E, [])) := by show _ = _; rw [HG.out]; exact allG_bad HL.out (by rw [lst_len]; omega) hd hE
        have n1 : (E != 0) = true := by rw [bne_iff_ne]; exact hE
        have n2 : (E == 0) = false := by rw [beq_eq_false_iff_ne]; exact hE
        clear hd hE HG
        unfold zrec
        go_wp2_with fail
        go_ret2
        exact ⟨HB1.out.alloc (by omega) _, .slice none 0 0, [], by rw [HR.out]; rfl, by rw [HR.out]; exact RL.nil _ _⟩
      · have HR : Hid (allG s.data.toList.length [] s.data.toList = allG (k - 1) (acc ++ [r]) (S.data.toList.drop n)) := by show _ = _; rw [HG.out]; exact allG_more HL.out (by rw [lst_len]; omega) hd
        rw [lst_len] at hn1
        obtain ⟨box, hbox⟩ : ∃ box, box = (w1.alloc (RecBox r.c r.o r.b r.s A r.ms.length cap (str r.t))) := ⟨_, rfl⟩
        have HRL2 : Hid (RL box w.heap.size u4 acc ps) := by rw [hbox]; exact HRL1.out.alloc _
        have HOI : Hid (OI box w.heap.size (.slice A r.ms.length cap) r.ms) := by rw [hbox]; exact (World.ownsRow.mono hOI hzw).alloc _
        have HB2 : Hid (Below w.heap.size w box) := by rw [hbox]; exact HB1.out.alloc (by omega) _
        have hzb : w.heap.size ≤ box.heap.size := HB2.out.size
        have HX := Lib.hid hbox
        have HSZ : Hid (box.heap.size = w1.heap.size + 1) := by show _ = _; rw [hbox]; simp
        have hn3 : (0 : Int) ≤ (n : Int) := by omega
        have hn4 : (n : Int) ≤ (S.size : Int) := by omega
        obtain ⟨S2, hS2⟩ : ∃ S2, S2 = S.extract n S.size := ⟨_, rfl⟩
        have HS2 := Lib.hid hS2
        have hS2l : S2.data.toList = S.data.toList.drop n := by rw [hS2, Lib.extract_data]; rw [List.take_of_length_le (by rw [List.length_drop, lst_len]; omega)]
        have HS2L := Lib.hid hS2l
        have hS2s : S2.size = S.size - n := by rw [← lst_len, hS2l, List.length_drop, lst_len]
        clear hd HG hbox hOI hS2 hS2l HRL1 HRL
        unfold recV
        go_wp2_with (at_builtin; (have hx := HX.out; unfold RecBox at hx; rw [← hx]; clear hx); refine wpL_appR rfl (.tmp 20) (.tmp 22) rfl HRL2.out rfl r (A, cap) HOI.out (by rw [HSZ.out]; rfl) (by omega) (by omega) rfl ?_; intro v' w2 h2 hb2; have H2 := Lib.hid h2; have HB3 := Lib.hid (HB2.out.trans hb2); clear h2 hb2)
        rw [← HS2.out]
        go_roundw
        case rel => exact ⟨S2, acc ++ [r], ps ++ [(A, cap)], k - 1, rfl, by rw [List.length_append, List.length_singleton]; omega, by omega, by show _ = _; rw [HR.out, HS2L.out], H2.out, HB3.out⟩
        case measure => simp [slen]; omega
end Go.Proofs.Ytahcgajipnkojaa
