/- wickref.Where by closures that capture nothing or two pointers; the closures of the reference's reader. -/
import Derived.Test.YtkdcgkdbieeijaaPrsA
import Derived.Test.YtkdcgkdbieeijaaB256
namespace Go.Proofs.Ytkdcgkdbieeijaa
open Go.RowKit
set_option linter.unusedVariables false
set_option linter.unusedSimpArgs false

set_option maxRecDepth 100000 in
set_option maxHeartbeats 400000 in
theorem where_none (F : FuncId)  (f : Nat → Bool) (w : World) (hcf : ∀ (b : Int) (w' : World), (callFunc F #[.int .i64 b]).run Try.prog w' = .ok (.enter F #[.int .i64 b]) w')
    (HC : ∀ (b : Nat) (w' : World), b < 256 → Below w.heap.size w w' → Calls Try.prog F #[.int .i64 (b : Int)] w' fun e w'' => e = .returned (.bool (f b)) ∧ Below w'.heap.size w' w'') :
    Calls Try.prog 89 #[.func (.func F) #[] #[]] w (WhereRes f w) := by
  have HS := Lib.hid (Sb2.start w)
  have HC := Lib.hid HC
  go_enter Try.func89, Try.ntmps89
  go_wp2_with fail
  go_loopw [4] (fun u wr => ∃ (b : Nat) (q : Q4), u = .int .i64 (b : Int) ∧ b ≤ 256 ∧ Sb2 w wr q ∧ Hid (SetOf q (upTo f b))) (fun u _ => 256 - (intOf u).toNat)
  case atStart => exact ⟨0, _, rfl, by omega, HS.out, upTo_start _⟩
  case round =>
    obtain ⟨b, q, rfl, hb, hS, HQ⟩ := hrel
    by_cases hlt : b < 256
    · have i1 : (b : Int) < 256 := by omega
      have CB := Lib.hid (HC.out b wr hlt hS.be)
      have HSr := Lib.hid hS
      clear hS
      go_wp2_with fail
      refine CB.out.mono ?_
      rintro e w1 ⟨rfl, b1⟩
      have hS := HSr.out.kept b1
      have HB1 := Lib.hid hS.be
      clear b1 CB HSr
      cases hv : f b with
      | false =>
        have HN : Hid (SetOf q (upTo f (b + 1))) := upTo_no HQ.out hv
        have HS2 := Lib.hid hS
        clear hS hv
        go_wp2_with fail
        go_roundw
        case rel => exact ⟨b + 1, q, by go_num, by omega, HS2.out, HN⟩
        case measure => simp [intOf]; omega
      | true =>
        have HN : Hid (SetOf (q.put b) (upTo f (b + 1))) := upTo_yes HQ.out hv hlt
        have hq4 : b / 64 < 4 := by omega
        have HN2 := Lib.hid (hS.setW hq4 (q.word (b / 64) ||| 2 ^ (b % 64)))
        have y0 := hS.set.cell hq4
        have y1 : w1.frozen? ⟨w.heap.size + 1, b / 64, none⟩ = false := Blk.frozen hS.set _
        have HV := Lib.hid (or_bit (q.word (b / 64)) b (Q4.word_lt HQ.out.1 _))
        clear hS hv
        rcases quarter (b := b) (by omega) with ⟨h6, e6⟩ | ⟨h6, e6⟩ | ⟨h6, e6⟩ | ⟨h6, e6⟩
        all_goals
          have HP : Hid (q.put b = q.setW (b / 64) (q.word (b / 64) ||| 2 ^ (b % 64))) := rfl
          rw [h6] at y0 y1 HN2 HV HP
          clear h6 hq4
          go_wp2_with fail
          go_region
          all_goals go_wp2_with fail
          all_goals go_roundw
          case rel => exact ⟨b + 1, q.put b, by go_num, by omega, by rw [HV.out, HP.out]; exact HN2.out.drew, HN⟩
          case measure => simp [intOf]; omega
    · obtain rfl : b = 256 := by omega
      have y0 : wr.cell? ⟨w.heap.size + 1, 0, none⟩ = some (.int .u64 (q.a : Int)) := hS.set.cell (k := 0) (by omega)
      have y1 : wr.cell? ⟨w.heap.size + 1, 1, none⟩ = some (.int .u64 (q.b : Int)) := hS.set.cell (k := 1) (by omega)
      have y2 : wr.cell? ⟨w.heap.size + 1, 2, none⟩ = some (.int .u64 (q.c : Int)) := hS.set.cell (k := 2) (by omega)
      have y3 : wr.cell? ⟨w.heap.size + 1, 3, none⟩ = some (.int .u64 (q.d : Int)) := hS.set.cell (k := 3) (by omega)
      have r0 : wr.cell? ⟨w.heap.size, 0, none⟩ = some (.int .u64 0) := hS.res.cell (k := 0) (by omega)
      have r1 : wr.cell? ⟨w.heap.size, 1, none⟩ = some (.int .u64 0) := hS.res.cell (k := 1) (by omega)
      have r2 : wr.cell? ⟨w.heap.size, 2, none⟩ = some (.int .u64 0) := hS.res.cell (k := 2) (by omega)
      have r3 : wr.cell? ⟨w.heap.size, 3, none⟩ = some (.int .u64 0) := hS.res.cell (k := 3) (by omega)
      have f0 : wr.frozen? ⟨w.heap.size, 0, none⟩ = false := Blk.frozen hS.res 0
      have f1 : wr.frozen? ⟨w.heap.size, 1, none⟩ = false := Blk.frozen hS.res 1
      have f2 : wr.frozen? ⟨w.heap.size, 2, none⟩ = false := Blk.frozen hS.res 2
      have f3 : wr.frozen? ⟨w.heap.size, 3, none⟩ = false := Blk.frozen hS.res 3
      have HS := Lib.hid hS
      clear hS hlt
      go_wp2_with fail
      obtain ⟨wz, hwz, hz, z0, z1, z2, z3⟩ := HS.out.put_
      rw [← hwz]
      refine bodyPost_ret (v := setV q) (by simp [results, Try.results89, go_sem, z0, z1, z2, z3, setV]) rfl ⟨q, rfl, ⟨HQ.out.1, fun j hj => by rw [HQ.out.2 j hj]; unfold upTo; rw [decide_eq_true hj, Bool.true_and]⟩, hz⟩
set_option maxRecDepth 100000 in
set_option maxHeartbeats 400000 in
theorem where_two (F : FuncId) (p p2 : Addr) (f : Nat → Bool) (w : World) (hcf : ∀ (b : Int) (w' : World), (callFunc F #[.int .i64 b, .pointer (some p), .pointer (some p2)]).run Try.prog w' = .ok (.enter F #[.int .i64 b, .pointer (some p), .pointer (some p2)]) w')
    (HC : ∀ (b : Nat) (w' : World), b < 256 → Below w.heap.size w w' → Calls Try.prog F #[.int .i64 (b : Int), .pointer (some p), .pointer (some p2)] w' fun e w'' => e = .returned (.bool (f b)) ∧ Below w'.heap.size w' w'') :
    Calls Try.prog 89 #[.func (.func F) #[] #[.pointer (some p), .pointer (some p2)]] w (WhereRes f w) := by
  have HS := Lib.hid (Sb2.start w)
  have HC := Lib.hid HC
  go_enter Try.func89, Try.ntmps89
  go_wp2_with fail
  go_loopw [4] (fun u wr => ∃ (b : Nat) (q : Q4), u = .int .i64 (b : Int) ∧ b ≤ 256 ∧ Sb2 w wr q ∧ Hid (SetOf q (upTo f b))) (fun u _ => 256 - (intOf u).toNat)
  case atStart => exact ⟨0, _, rfl, by omega, HS.out, upTo_start _⟩
  case round =>
    obtain ⟨b, q, rfl, hb, hS, HQ⟩ := hrel
    by_cases hlt : b < 256
    · have i1 : (b : Int) < 256 := by omega
      have CB := Lib.hid (HC.out b wr hlt hS.be)
      have HSr := Lib.hid hS
      clear hS
      go_wp2_with fail
      refine CB.out.mono ?_
      rintro e w1 ⟨rfl, b1⟩
      have hS := HSr.out.kept b1
      have HB1 := Lib.hid hS.be
      clear b1 CB HSr
      cases hv : f b with
      | false =>
        have HN : Hid (SetOf q (upTo f (b + 1))) := upTo_no HQ.out hv
        have HS2 := Lib.hid hS
        clear hS hv
        go_wp2_with fail
        go_roundw
        case rel => exact ⟨b + 1, q, by go_num, by omega, HS2.out, HN⟩
        case measure => simp [intOf]; omega
      | true =>
        have HN : Hid (SetOf (q.put b) (upTo f (b + 1))) := upTo_yes HQ.out hv hlt
        have hq4 : b / 64 < 4 := by omega
        have HN2 := Lib.hid (hS.setW hq4 (q.word (b / 64) ||| 2 ^ (b % 64)))
        have y0 := hS.set.cell hq4
        have y1 : w1.frozen? ⟨w.heap.size + 1, b / 64, none⟩ = false := Blk.frozen hS.set _
        have HV := Lib.hid (or_bit (q.word (b / 64)) b (Q4.word_lt HQ.out.1 _))
        clear hS hv
        rcases quarter (b := b) (by omega) with ⟨h6, e6⟩ | ⟨h6, e6⟩ | ⟨h6, e6⟩ | ⟨h6, e6⟩
        all_goals
          have HP : Hid (q.put b = q.setW (b / 64) (q.word (b / 64) ||| 2 ^ (b % 64))) := rfl
          rw [h6] at y0 y1 HN2 HV HP
          clear h6 hq4
          go_wp2_with fail
          go_region
          all_goals go_wp2_with fail
          all_goals go_roundw
          case rel => exact ⟨b + 1, q.put b, by go_num, by omega, by rw [HV.out, HP.out]; exact HN2.out.drew, HN⟩
          case measure => simp [intOf]; omega
    · obtain rfl : b = 256 := by omega
      have y0 : wr.cell? ⟨w.heap.size + 1, 0, none⟩ = some (.int .u64 (q.a : Int)) := hS.set.cell (k := 0) (by omega)
      have y1 : wr.cell? ⟨w.heap.size + 1, 1, none⟩ = some (.int .u64 (q.b : Int)) := hS.set.cell (k := 1) (by omega)
      have y2 : wr.cell? ⟨w.heap.size + 1, 2, none⟩ = some (.int .u64 (q.c : Int)) := hS.set.cell (k := 2) (by omega)
      have y3 : wr.cell? ⟨w.heap.size + 1, 3, none⟩ = some (.int .u64 (q.d : Int)) := hS.set.cell (k := 3) (by omega)
      have r0 : wr.cell? ⟨w.heap.size, 0, none⟩ = some (.int .u64 0) := hS.res.cell (k := 0) (by omega)
      have r1 : wr.cell? ⟨w.heap.size, 1, none⟩ = some (.int .u64 0) := hS.res.cell (k := 1) (by omega)
      have r2 : wr.cell? ⟨w.heap.size, 2, none⟩ = some (.int .u64 0) := hS.res.cell (k := 2) (by omega)
      have r3 : wr.cell? ⟨w.heap.size, 3, none⟩ = some (.int .u64 0) := hS.res.cell (k := 3) (by omega)
      have f0 : wr.frozen? ⟨w.heap.size, 0, none⟩ = false := Blk.frozen hS.res 0
      have f1 : wr.frozen? ⟨w.heap.size, 1, none⟩ = false := Blk.frozen hS.res 1
      have f2 : wr.frozen? ⟨w.heap.size, 2, none⟩ = false := Blk.frozen hS.res 2
      have f3 : wr.frozen? ⟨w.heap.size, 3, none⟩ = false := Blk.frozen hS.res 3
      have HS := Lib.hid hS
      clear hS hlt
      go_wp2_with fail
      obtain ⟨wz, hwz, hz, z0, z1, z2, z3⟩ := HS.out.put_
      rw [← hwz]
      refine bodyPost_ret (v := setV q) (by simp [results, Try.results89, go_sem, z0, z1, z2, z3, setV]) rfl ⟨q, rfl, ⟨HQ.out.1, fun j hj => by rw [HQ.out.2 j hj]; unfold upTo; rw [decide_eq_true hj, Bool.true_and]⟩, hz⟩
def n10 (b : Nat) : Bool := decide (¬ b = 10)
theorem atom1_any (b : Nat) (w : World) (hb : b < 256) : Calls Try.prog 90 #[.int .i64 (b : Int)] w fun e w' => e = .returned (.bool (n10 b)) ∧ Below w.heap.size w w' := by
  obtain ⟨v, hv⟩ : ∃ v, v = n10 b := ⟨_, rfl⟩
  rw [← hv]
  have e : ((b : Int) != 10) = v := by
    rw [hv]
    unfold n10
    rw [Bool.eq_iff_iff]
    simp
    omega
  have HE := Lib.hid e
  clear hv e
  go_enter Try.func90, Try.ntmps90
  go_wp2_with fail
  go_ret
  exact ⟨by rw [HE.out]; rfl, Below.refl _ _⟩
theorem atom1_cf (b : Int) (w' : World) : (callFunc 90 #[.int .i64 b]).run Try.prog w' = .ok (.enter 90 #[.int .i64 b]) w' := by kernel_rfl
theorem item1_any (b : Nat) (w : World) (hb : b < 256) : Calls Try.prog 104 #[.int .i64 (b : Int)] w fun e w' => e = .returned (.bool (gD b)) ∧ Below w.heap.size w w' := by
  obtain ⟨v, hv⟩ : ∃ v, v = gD b := ⟨_, rfl⟩
  rw [← hv]
  have e : v = (decide ((48 : Int) ≤ (b : Int)) && decide ((b : Int) ≤ 57)) := by
    rw [hv]
    unfold gD rngF
    rw [Bool.eq_iff_iff]
    simp
  have HE := Lib.hid e
  clear hv e
  by_cases h1 : (48 : Int) ≤ (b : Int)
  · have d1 : decide ((48 : Int) ≤ (b : Int)) = true := decide_eq_true h1
    by_cases h2 : (b : Int) ≤ 57
    · have d2 : decide ((b : Int) ≤ 57) = true := decide_eq_true h2
      have HV : Hid (v = true) := Lib.hid (by rw [HE.out, d1, d2]; rfl)
      clear h1 h2
      go_enter Try.func104, Try.ntmps104
      go_wp2_with fail
      go_ret
      exact ⟨by rw [HV.out]; rfl, Below.refl _ _⟩
    · have d2 : decide ((b : Int) ≤ 57) = false := decide_eq_false h2
      have HV : Hid (v = false) := Lib.hid (by rw [HE.out, d1, d2]; rfl)
      clear h1 h2
      go_enter Try.func104, Try.ntmps104
      go_wp2_with fail
      go_ret
      exact ⟨by rw [HV.out]; rfl, Below.refl _ _⟩
  · have d1 : decide ((48 : Int) ≤ (b : Int)) = false := decide_eq_false h1
    have HV : Hid (v = false) := Lib.hid (by rw [HE.out, d1]; rfl)
    clear h1
    go_enter Try.func104, Try.ntmps104
    go_wp2_with fail
    go_ret
    exact ⟨by rw [HV.out]; rfl, Below.refl _ _⟩
theorem item1_cf (b : Int) (w' : World) : (callFunc 104 #[.int .i64 b]).run Try.prog w' = .ok (.enter 104 #[.int .i64 b]) w' := by kernel_rfl
theorem gW_has : ∀ b : Fin 256, hasb (b.val : Int) [97, 98, 99, 100, 101, 102, 103, 104, 105, 106, 107, 108, 109, 110, 111, 112, 113, 114, 115, 116, 117, 118, 119, 120, 121, 122, 65, 66, 67, 68, 69, 70, 71, 72, 73, 74, 75, 76, 77, 78, 79, 80, 81, 82, 83, 84, 85, 86, 87, 88, 89, 90, 48, 49, 50, 51, 52, 53, 54, 55, 56, 57, 95] = gW b.val := by decide +kernel
theorem item2_any (b : Nat) (w : World) (hb : b < 256) : Calls Try.prog 105 #[.int .i64 (b : Int)] w fun e w' => e = .returned (.bool (gW b)) ∧ Below w.heap.size w w' := by
  have HE : Hid (hasb (b : Int) [97, 98, 99, 100, 101, 102, 103, 104, 105, 106, 107, 108, 109, 110, 111, 112, 113, 114, 115, 116, 117, 118, 119, 120, 121, 122, 65, 66, 67, 68, 69, 70, 71, 72, 73, 74, 75, 76, 77, 78, 79, 80, 81, 82, 83, 84, 85, 86, 87, 88, 89, 90, 48, 49, 50, 51, 52, 53, 54, 55, 56, 57, 95] = gW b) := Lib.hid (gW_has ⟨b, hb⟩)
  have hw : IntKind.u8.wrap (b : Int) = (b : Int) := IntWalk.u8_in _ (by omega)
  have hw2 : (b : Int) % 256 = (b : Int) := by omega
  go_enter Try.func105, Try.ntmps105
  go_wp2_with fail
  refine (in_any (b : Int) _ w (by decide) (by omega) (by omega)).mono ?_
  rintro e w' ⟨rfl, rfl⟩
  go_wp2_with fail
  go_ret
  exact ⟨by rw [← HE.out]; rfl, Below.refl _ _⟩
theorem item2_cf (b : Int) (w' : World) : (callFunc 105 #[.int .i64 b]).run Try.prog w' = .ok (.enter 105 #[.int .i64 b]) w' := by kernel_rfl
theorem item3_any (b : Nat) (w : World) (hb : b < 256) : Calls Try.prog 106 #[.int .i64 (b : Int)] w fun e w' => e = .returned (.bool (gS b)) ∧ Below w.heap.size w w' := by
  obtain ⟨v, hv⟩ : ∃ v, v = gS b := ⟨_, rfl⟩
  rw [← hv]
  have e : v = (decide ((9 : Int) ≤ (b : Int)) && decide ((b : Int) ≤ 13) || (b : Int) == 32) := by
    rw [hv]
    unfold gS rngF
    rw [Bool.eq_iff_iff]
    simp
    omega
  have HE := Lib.hid e
  clear hv e
  by_cases h0 : b < 9
  · have d1 : decide ((9 : Int) ≤ (b : Int)) = false := decide_eq_false (by omega)
    have d2 : decide ((b : Int) ≤ 13) = true := decide_eq_true (by omega)
    have d3 : ((b : Int) == 32) = false := beq_eq_false_iff_ne.2 (by omega)
    have HV : Hid (v = false) := Lib.hid (by rw [HE.out, d1, d2, d3]; rfl)
    clear h0
    go_enter Try.func106, Try.ntmps106
    go_wp2_with fail
    go_ret
    exact ⟨by rw [HV.out]; rfl, Below.refl _ _⟩
  by_cases h1 : b ≤ 13
  · have d1 : decide ((9 : Int) ≤ (b : Int)) = true := decide_eq_true (by omega)
    have d2 : decide ((b : Int) ≤ 13) = true := decide_eq_true (by omega)
    have d3 : ((b : Int) == 32) = false := beq_eq_false_iff_ne.2 (by omega)
    have HV : Hid (v = true) := Lib.hid (by rw [HE.out, d1, d2, d3]; rfl)
    clear h0 h1
    go_enter Try.func106, Try.ntmps106
    go_wp2_with fail
    go_ret
    exact ⟨by rw [HV.out]; rfl, Below.refl _ _⟩
  by_cases h2 : b = 32
  · have d1 : decide ((9 : Int) ≤ (b : Int)) = true := decide_eq_true (by omega)
    have d2 : decide ((b : Int) ≤ 13) = false := decide_eq_false (by omega)
    have d3 : ((b : Int) == 32) = true := beq_iff_eq.2 (by omega)
    have HV : Hid (v = true) := Lib.hid (by rw [HE.out, d1, d2, d3]; rfl)
    clear h0 h1 h2
    go_enter Try.func106, Try.ntmps106
    go_wp2_with fail
    go_ret
    exact ⟨by rw [HV.out]; rfl, Below.refl _ _⟩
  by_cases h3 : 13 < b ∧ ¬ b = 32
  · have d1 : decide ((9 : Int) ≤ (b : Int)) = true := decide_eq_true (by omega)
    have d2 : decide ((b : Int) ≤ 13) = false := decide_eq_false (by omega)
    have d3 : ((b : Int) == 32) = false := beq_eq_false_iff_ne.2 (by omega)
    have HV : Hid (v = false) := Lib.hid (by rw [HE.out, d1, d2, d3]; rfl)
    clear h0 h1 h2 h3
    go_enter Try.func106, Try.ntmps106
    go_wp2_with fail
    go_ret
    exact ⟨by rw [HV.out]; rfl, Below.refl _ _⟩
  omega
theorem item3_cf (b : Int) (w' : World) : (callFunc 106 #[.int .i64 b]).run Try.prog w' = .ok (.enter 106 #[.int .i64 b]) w' := by kernel_rfl
theorem atom2_any (b lo : Nat) (g : Nat) (w : World) (hb : b < 256) (h : w.cell? ⟨g, 0, none⟩ = some (.int .i64 (lo : Int))) :
    Calls Try.prog 93 #[.int .i64 (b : Int), .pointer (some ⟨g, 0, none⟩)] w fun e w' => e = .returned (.bool (rngF (lo : Int) (lo : Int) b)) ∧ Below w.heap.size w w' := by
  obtain ⟨v, hv⟩ : ∃ v, v = rngF (lo : Int) (lo : Int) b := ⟨_, rfl⟩
  rw [← hv]
  have e : ((b : Int) == (lo : Int)) = v := by
    rw [hv]
    unfold rngF
    rw [Bool.eq_iff_iff]
    simp
    omega
  have HE := Lib.hid e
  clear hv e
  go_enter Try.func93, Try.ntmps93
  go_wp2_with fail
  go_ret
  exact ⟨by rw [HE.out]; rfl, Below.refl _ _⟩
theorem atom2_cf (g : Nat) (b : Int) (w' : World) : (callFunc 93 #[.int .i64 b, .pointer (some ⟨g, 0, none⟩)]).run Try.prog w' = .ok (.enter 93 #[.int .i64 b, .pointer (some ⟨g, 0, none⟩)]) w' := by kernel_rfl
theorem class1_any (b : Nat) (g gn : Nat) (f : Nat → Bool) (iv : Bool) (w : World) (hb : b < 256) (h : BoR w g 256 f) (h2 : w.cell? ⟨gn, 0, none⟩ = some (.bool iv)) :
    Calls Try.prog 103 #[.int .i64 (b : Int), .pointer (some ⟨g, 0, none⟩), .pointer (some ⟨gn, 0, none⟩)] w fun e w' => e = .returned (.bool (f b != iv)) ∧ Below w.heap.size w w' := by
  have y0 := h.cell b hb
  have i1 : (b : Int) < 256 := by omega
  have i2 : (0 : Int) ≤ (b : Int) := by omega
  obtain ⟨v, hv⟩ : ∃ v, v = f b := ⟨_, rfl⟩
  rw [← hv] at y0 ⊢
  clear h hv
  go_enter Try.func103, Try.ntmps103
  go_wp2_with fail
  go_quiet (fail)
  go_wp2_with fail
  go_ret
  exact ⟨rfl, below_drewN (Below.refl _ _) _⟩
theorem class1_cf (g gn : Nat) (b : Int) (w' : World) : (callFunc 103 #[.int .i64 b, .pointer (some ⟨g, 0, none⟩), .pointer (some ⟨gn, 0, none⟩)]).run Try.prog w' = .ok (.enter 103 #[.int .i64 b, .pointer (some ⟨g, 0, none⟩), .pointer (some ⟨gn, 0, none⟩)]) w' := by kernel_rfl
end Go.Proofs.Ytkdcgkdbieeijaa
