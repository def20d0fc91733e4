/- Walk: slices.EqualFunc of two lists of requests that are the same. -/
import Derived.Test.YtkcncgdgicffhaaDoorGat
import Derived.LoopTactic
import Derived.Test.YtkcncgdgicffhaaDoorGaq
import Derived.Test.YtkcncgdgicffhaaDoorGas
namespace Go.Proofs.YtkcncgdgicffhaaDoor
open Go.RowKit
set_option linter.unusedVariables false
set_option linter.unusedSimpArgs false

theorem rcFlat_len (L : List RC) : (rcFlat L).length = L.length * 4 := by
  induction L with
  | nil => rfl
  | cons r L ih => simp only [rcFlat, List.flatMap_cons, List.length_append] at *; rw [ih]; simp; omega
theorem rcFlat_get {L : List RC} {k j : Nat} {r : RC} (h : L[k]? = some r) (hj : j < 4) : (rcFlat L)[k * 4 + j]? = r.cells[j]? := by
  obtain ⟨hk, rfl⟩ := List.getElem?_eq_some_iff.1 h
  have e : L = L.take k ++ L[k] :: L.drop (k + 1) := by rw [← List.drop_eq_getElem_cons hk, List.take_append_drop]
  have hc : rcFlat L = rcFlat (L.take k) ++ (L[k].cells ++ rcFlat (L.drop (k + 1))) := by
    conv => lhs; rw [e]
    simp only [rcFlat, List.flatMap_append, List.flatMap_cons]
  have hl : (rcFlat (L.take k)).length = k * 4 := by rw [rcFlat_len, List.length_take, Nat.min_eq_left (by omega)]
  rw [hc, List.getElem?_append_right (by omega), hl, Nat.add_sub_cancel_left, List.getElem?_append_left (by simp; omega)]
theorem RL.at_ {w : World} {B : Nat} {A : Option Addr} {c : Nat} {L : List RC} (h : RL w B (.slice A L.length c) L) {k : Nat} {r : RC} (hk : L[k]? = some r) :
    ∃ g, A = some ⟨g, 0, none⟩ ∧ g < w.heap.size ∧ w.cell? ⟨g, k * 4, none⟩ = some (.string r.h.m) ∧ w.cell? ⟨g, k * 4 + 1, none⟩ = some (.string r.h.t) ∧ w.cell? ⟨g, k * 4 + 2, none⟩ = some (.slice r.A r.h.fs.length r.c) ∧ w.cell? ⟨g, k * 4 + 3, none⟩ = some (.string r.x) := by
  have hkl := (List.getElem?_eq_some_iff.1 hk).1
  rcases h.row.2 with ⟨_, h2⟩ | ⟨g, c', cur, e, hb, hh, h3, h4, h5⟩
  · omega
  · injection e with e1 e2 e3
    subst e1
    obtain ⟨ad, ea, hlt, hc⟩ := (Reads.of_own h.row).2 (by omega)
    cases ea
    have key : ∀ j u, j < 4 → r.cells[j]? = some u → w.cell? ⟨g, k * 4 + j, none⟩ = some u := by
      intro j u hj hu
      have := hc (k * 4 + j) u (by rw [rcFlat_get hk hj]; exact hu)
      have ea : (⟨g, 0, none⟩ : Addr).add (k * 4 + j) = ⟨g, k * 4 + j, none⟩ := by unfold Addr.add; split <;> simp_all
      rw [ea] at this; exact this
    exact ⟨g, rfl, hlt, key 0 _ (by omega) rfl, key 1 _ (by omega) rfl, key 2 _ (by omega) rfl, key 3 _ (by omega) rfl⟩
set_option maxRecDepth 100000 in
set_option maxHeartbeats 2000000 in
theorem eqReqs_any (A A' : Option Addr) (c c' : Nat) (L L' : List RC) (w : World) (B B' : Nat) (hl : L.length ≤ 1048576) (h : RL w B (.slice A L.length c) L) (h' : RL w B' (.slice A' L'.length c') L') (hp : L.map RC.plain = L'.map RC.plain) (hs : ∀ r ∈ L, r.h.fs.length ≤ 1048576) :
    Calls Tryd.prog 27 #[.slice A L.length c, .slice A' L'.length c', .func (.func 23) #[] #[]] w fun e w' => e = .returned (.bool true) ∧ Below w.heap.size w w' := by
  have hll : L.length = L'.length := by have := congrArg List.length hp; simpa using this
  have hb0 : ((L.length : Int) != (L'.length : Int)) = false := by rw [hll]; simp
  have hl1 : L.length ≤ L'.length := by omega
  have hl2 : L'.length ≤ L.length := by omega
  have H := Lib.hid h
  have H' := Lib.hid h'
  have HP := Lib.hid hp
  have HSm := Lib.hid hs
  clear h h' hp hll hs
  go_enter Tryd.func27, Tryd.ntmps27
  go_wp2_with fail
  go_loopw [17] (fun i wr => ∃ k : Nat, k ≤ L.length ∧ i = .int .i64 (k : Int) ∧ Below w.heap.size w wr) (fun i _ => L.length - (intOf i).toNat)
  case atStart => exact ⟨0, by omega, rfl, Below.refl _ _⟩
  case round =>
    obtain ⟨k, hk, rfl, hb⟩ := hrel
    by_cases hlt : k < L.length
    · obtain ⟨r, hr⟩ : ∃ r, L[k]? = some r := ⟨L[k], List.getElem?_eq_getElem hlt⟩
      obtain ⟨r', hr'⟩ : ∃ r', L'[k]? = some r' := ⟨L'[k]'(by omega), List.getElem?_eq_getElem (by omega)⟩
      have hpl : r.plain = r'.plain := by
        have := congrArg (fun l => l[k]?) HP.out
        simp only [List.getElem?_map, hr, hr', Option.map_some, Option.some.injEq] at this
        exact this
      obtain ⟨A1, c1, ⟨mm, tt, ff⟩, x⟩ := r
      obtain ⟨A2, c2, h2, x2⟩ := r'
      simp only [RC.plain, Prod.mk.injEq] at hpl
      obtain ⟨rfl, rfl⟩ := hpl
      have i1 : (k : Int) < (L.length : Int) := by omega
      have i2 : (k : Int) < (L'.length : Int) := by omega
      have hL := H.out.kept hb
      have hL' := H'.out.kept hb
      obtain ⟨g, rfl, hg, x0, x1, x2, x3⟩ := hL.at_ hr
      obtain ⟨g', rfl, hg', y0, y1, y2, y3⟩ := hL'.at_ hr'
      have ho := hL.fds _ (List.mem_of_getElem? hr)
      have ho' := hL'.fds _ (List.mem_of_getElem? hr')
      have hfz := HSm.out _ (List.mem_of_getElem? hr)
      dsimp only at x0 x1 x2 x3 y0 y1 y2 y3 ho ho' hfz
      have HO := Lib.hid ho
      have HO' := Lib.hid ho'
      have HB := Lib.hid hb
      clear hr hr' hL hL' ho ho' hb
      go_wp2_with fail
      refine (sameReq_any mm tt x ff A1 A2 c1 c2 _ _ _ (by omega) ((HO.out.alloc _).alloc _) ((HO'.out.alloc _).alloc _)).mono ?_
      rintro e w1 ⟨rfl, b1⟩
      have HB1 := Lib.hid (((HB.out.alloc HB.out.size _).alloc (Nat.le_trans HB.out.size (by simp)) _).trans (b1.mono (Nat.le_trans HB.out.size (by simp; omega))))
      clear b1
      go_wp2_with fail
      go_roundw
      case rel => exact ⟨k + 1, by omega, by go_num, HB1.out⟩
      case measure => simp [intOf]; omega
    · obtain rfl : k = L.length := by omega
      have HB := Lib.hid hb
      clear hb hlt
      go_wp2_with fail
      go_ret
      exact ⟨rfl, HB.out⟩
end Go.Proofs.YtkcncgdgicffhaaDoor

/- Walk: wickref.SameHead of two heads that are the same. -/
namespace Go.Proofs.YtkcncgdgicffhaaDoor
open Go.RowKit
set_option linter.unusedVariables false
set_option linter.unusedSimpArgs false

theorem hd_len (h : Hd) (h0 : hdE h = 0) : h.fs.length ≤ 30 := by
  obtain ⟨m, t, fs⟩ := h
  exact (hdE_small h0).2.2.1
theorem rhR_len (s : ByteArray) : (rhR s).fs.length ≤ 30 := by
  have hz : zHd.fs.length ≤ 30 := Nat.zero_le 30
  by_cases h1 : 4096 < s.size
  · rw [(rh_large h1).2]; exact hz
  · by_cases h2 : RhForm s
    · by_cases h3 : hdE (rhHd s) = 0
      · rw [(rh_ok h1 h2 h3).2]; exact hd_len _ h3
      · rw [(rh_bad h1 h2 h3).2]; exact hz
    · rw [(rh_form h1 h2).2]; exact hz
end Go.Proofs.YtkcncgdgicffhaaDoor
