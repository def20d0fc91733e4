/- Walk: wickref.Where: a set by a function that tells of each byte. -/
import Derived.Test.YtkdcgkdbieeijaaSbB
namespace Go.Proofs.Ytkdcgkdbieeijaa
open Go.RowKit
set_option linter.unusedVariables false
set_option linter.unusedSimpArgs false

/-- the bytes below k of which f holds -/
def upTo (f : Nat → Bool) (k : Nat) (j : Nat) : Bool := decide (j < k) && f j
theorem upTo_start (f : Nat → Bool) : SetOf ⟨0, 0, 0, 0⟩ (upTo f 0) := ⟨⟨by decide, by decide, by decide, by decide⟩, fun b _ => by rw [setB_none]; unfold upTo; simp⟩
theorem upTo_no {q : Q4} {f : Nat → Bool} {k : Nat} (h : SetOf q (upTo f k)) (hf : f k = false) : SetOf q (upTo f (k + 1)) := ⟨h.1, fun j hj => by
  rw [h.2 j hj]; unfold upTo
  by_cases e : j = k
  · subst e; rw [hf, Bool.and_false, Bool.and_false]
  · congr 1; rw [Bool.eq_iff_iff, decide_eq_true_eq, decide_eq_true_eq]; omega⟩
theorem upTo_yes {q : Q4} {f : Nat → Bool} {k : Nat} (h : SetOf q (upTo f k)) (hf : f k = true) (hk : k < 256) : SetOf (q.put k) (upTo f (k + 1)) := ⟨Q4.put_ok h.1 k, fun j hj => by
  rw [setB_put q hk hj, h.2 j hj]; unfold upTo
  by_cases e : j = k
  · subst e; rw [hf]; simp
  · rw [decide_eq_false e, Bool.false_or]; congr 1; rw [Bool.eq_iff_iff, decide_eq_true_eq, decide_eq_true_eq]; omega⟩
def WhereRes (f : Nat → Bool) (w : World) (e : Ending) (w' : World) : Prop := ∃ q, e = .returned (setV q) ∧ SetOf q f ∧ Below w.heap.size w w'
set_option maxRecDepth 100000 in
set_option maxHeartbeats 400000 in
theorem where_any (F : FuncId) (p : Addr) (f : Nat → Bool) (w : World) (hcf : ∀ (b : Int) (w' : World), (callFunc F #[.int .i64 b, .pointer (some p)]).run Try.prog w' = .ok (.enter F #[.int .i64 b, .pointer (some p)]) w')
    (HC : ∀ (b : Nat) (w' : World), b < 256 → Below w.heap.size w w' → Calls Try.prog F #[.int .i64 (b : Int), .pointer (some p)] w' fun e w'' => e = .returned (.bool (f b)) ∧ Below w'.heap.size w' w'') :
    Calls Try.prog 89 #[.func (.func F) #[] #[.pointer (some p)]] w (WhereRes f w) := by
  have HS := Lib.hid (Sb2.start w)
  have HC := Lib.hid HC
  go_enter Try.func89, Try.ntmps89
  go_wp2_with fail
  go_loopw [4] (fun u wr => ∃ (b : Nat) (q : Q4), u = .int .i64 (b : Int) ∧ b ≤ 256 ∧ Sb2 w wr q ∧ Hid (SetOf q (upTo f b))) (fun u _ => 256 - (intOf u).toNat)
  case atStart => exact ⟨0, _, rfl, by omega, HS.out, upTo_start _⟩
  case round =>
    obtain ⟨b, q, rfl, hb, hS, HQ⟩ := hrel
    by_cases hlt : b < 256
    · have i1 : (b : Int) < 256 := by omega
      have CB := Lib.hid (HC.out b wr hlt hS.be)
      have HSr := Lib.hid hS
      clear hS
      go_wp2_with fail
      refine CB.out.mono ?_
      rintro e w1 ⟨rfl, b1⟩
      have hS := HSr.out.kept b1
      have HB1 := Lib.hid hS.be
      clear b1 CB HSr
      cases hv : f b with
      | false =>
        have HN : Hid (SetOf q (upTo f (b + 1))) := upTo_no HQ.out hv
        have HS2 := Lib.hid hS
        clear hS hv
        go_wp2_with fail
        go_roundw
        case rel => exact ⟨b + 1, q, by go_num, by omega, HS2.out, HN⟩
        case measure => simp [intOf]; omega
      | true =>
        have HN : Hid (SetOf (q.put b) (upTo f (b + 1))) := upTo_yes HQ.out hv hlt
        have hq4 : b / 64 < 4 := by omega
        have HN2 := Lib.hid (hS.setW hq4 (q.word (b / 64) ||| 2 ^ (b % 64)))
        have y0 := hS.set.cell hq4
        have y1 : w1.frozen? ⟨w.heap.size + 1, b / 64, none⟩ = false := Blk.frozen hS.set _
        have HV := Lib.hid (or_bit (q.word (b / 64)) b (Q4.word_lt HQ.out.1 _))
        clear hS hv
        rcases quarter (b := b) (by omega) with ⟨h6, e6⟩ | ⟨h6, e6⟩ | ⟨h6, e6⟩ | ⟨h6, e6⟩
        all_goals
          have HP : Hid (q.put b = q.setW (b / 64) (q.word (b / 64) ||| 2 ^ (b % 64))) := rfl
          rw [h6] at y0 y1 HN2 HV HP
          clear h6 hq4
          go_wp2_with fail
          go_region
          all_goals go_wp2_with fail
          all_goals go_roundw
          case rel => exact ⟨b + 1, q.put b, by go_num, by omega, by rw [HV.out, HP.out]; exact HN2.out.drew, HN⟩
          case measure => simp [intOf]; omega
    · obtain rfl : b = 256 := by omega
      have y0 : wr.cell? ⟨w.heap.size + 1, 0, none⟩ = some (.int .u64 (q.a : Int)) := hS.set.cell (k := 0) (by omega)
      have y1 : wr.cell? ⟨w.heap.size + 1, 1, none⟩ = some (.int .u64 (q.b : Int)) := hS.set.cell (k := 1) (by omega)
      have y2 : wr.cell? ⟨w.heap.size + 1, 2, none⟩ = some (.int .u64 (q.c : Int)) := hS.set.cell (k := 2) (by omega)
      have y3 : wr.cell? ⟨w.heap.size + 1, 3, none⟩ = some (.int .u64 (q.d : Int)) := hS.set.cell (k := 3) (by omega)
      have r0 : wr.cell? ⟨w.heap.size, 0, none⟩ = some (.int .u64 0) := hS.res.cell (k := 0) (by omega)
      have r1 : wr.cell? ⟨w.heap.size, 1, none⟩ = some (.int .u64 0) := hS.res.cell (k := 1) (by omega)
      have r2 : wr.cell? ⟨w.heap.size, 2, none⟩ = some (.int .u64 0) := hS.res.cell (k := 2) (by omega)
      have r3 : wr.cell? ⟨w.heap.size, 3, none⟩ = some (.int .u64 0) := hS.res.cell (k := 3) (by omega)
      have f0 : wr.frozen? ⟨w.heap.size, 0, none⟩ = false := Blk.frozen hS.res 0
      have f1 : wr.frozen? ⟨w.heap.size, 1, none⟩ = false := Blk.frozen hS.res 1
      have f2 : wr.frozen? ⟨w.heap.size, 2, none⟩ = false := Blk.frozen hS.res 2
      have f3 : wr.frozen? ⟨w.heap.size, 3, none⟩ = false := Blk.frozen hS.res 3
      have HS := Lib.hid hS
      clear hS hlt
      go_wp2_with fail
      obtain ⟨wz, hwz, hz, z0, z1, z2, z3⟩ := HS.out.put_
      rw [← hwz]
      refine bodyPost_ret (v := setV q) (by simp [results, Try.results89, go_sem, z0, z1, z2, z3, setV]) rfl ⟨q, rfl, ⟨HQ.out.1, fun j hj => by rw [HQ.out.2 j hj]; unfold upTo; rw [decide_eq_true hj, Bool.true_and]⟩, hz⟩
end Go.Proofs.Ytkdcgkdbieeijaa
