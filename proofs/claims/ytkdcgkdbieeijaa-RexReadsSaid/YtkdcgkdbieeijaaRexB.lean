/- Walks: rex.kids, rex.check, rex.Check. -/
import Derived.Test.YtkdcgkdbieeijaaRexA
import Derived.Test.YtkdcgkdbieeijaaDec
import Derived.Test.YtkdcgkdbieeijaaKept
import Derived.Test.YtkdcgkdbieeijaaSet
import Derived.WalkKit
import Derived.Deep.QuietTactic
import Derived.BigQuiet
import Derived.Lib.Hide
namespace Go.Proofs.Ytkdcgkdbieeijaa
open Go.RowKit
set_option linter.unusedVariables false
set_option linter.unusedSimpArgs false

theorem int_beq {a b : Int} (h : ¬ a = b) : (a == b) = false := beq_eq_false_iff_ne.2 h
theorem kids_any (k : Int) (w : World) : Calls Try.prog 48 #[.int .i64 k] w fun e w' => e = .returned (.int .i64 (wantK k)) ∧ w = w' := by
  have h0 : k = 1 ∨ k = 2 ∨ k = 3 ∨ k = 4 ∨ k = 5 ∨ k = 6 ∨ k = 7 ∨ k = 8 ∨ (k ≠ 1 ∧ k ≠ 2 ∧ k ≠ 3 ∧ k ≠ 4 ∧ k ≠ 5 ∧ k ≠ 6 ∧ k ≠ 7 ∧ k ≠ 8) := by omega
  rcases h0 with rfl | rfl | rfl | rfl | rfl | rfl | rfl | rfl | ⟨h1, h2, h3, h4, h5, h6, h7, h8⟩
  iterate 8
    · go_enter Try.func48, Try.ntmps48
      go_wp2
      go_ret
      exact ⟨rfl, rfl⟩
  have e1 := int_beq h1
  have e2 := int_beq h2
  have e3 := int_beq h3
  have e4 := int_beq h4
  have e5 := int_beq h5
  have e6 := int_beq h6
  have e7 := int_beq h7
  have e8 := int_beq h8
  have H : Hid (wantK k = -1) := by show _ = _; unfold wantK; rw [if_neg (by omega), if_neg (by omega), if_neg (by omega)]
  rw [H.out]
  clear h1 h2 h3 h4 h5 h6 h7 h8
  go_enter Try.func48, Try.ntmps48
  go_wp2
  go_ret
  exact ⟨rfl, rfl⟩

theorem zero_int (s : Q4) : ((s.a : Int) == 0 && ((s.b : Int) == 0 && ((s.c : Int) == 0 && (s.d : Int) == 0))) = s.zero := by
  have e : ∀ n : Nat, ((n : Int) == 0) = (n == 0) := fun n => by rw [Bool.eq_iff_iff, beq_iff_eq, beq_iff_eq]; omega
  unfold Q4.zero
  rw [e, e, e, e]
  cases (s.a == 0) <;> cases (s.b == 0) <;> cases (s.c == 0) <;> cases (s.d == 0) <;> rfl
theorem okR_off {k : Int} {s : Q4} {ks : List Rx} (h : ¬ wantK k = (ks.length : Int)) : okR (.mk k s ks) = false := by
  unfold okR
  simp only [Rx.k, Rx.s, Rx.ks]
  rw [int_beq h]; rfl
theorem okR_eq {k : Int} {s : Q4} {ks : List Rx} (h : wantK k = (ks.length : Int)) : okR (.mk k s ks) = !((k == 3) == ((s.a : Int) == 0 && ((s.b : Int) == 0 && ((s.c : Int) == 0 && (s.d : Int) == 0)))) := by
  rw [zero_int]
  unfold okR
  simp only [Rx.k, Rx.s, Rx.ks]
  rw [h, beq_self_eq_true]
  cases (k == 3) <;> cases s.zero <;> rfl
theorem okR_bad {k : Int} {s : Q4} {ks : List Rx} (h : wantK k = (ks.length : Int)) (h2 : okR (.mk k s ks) = false) : ((k == 3) == ((s.a : Int) == 0 && ((s.b : Int) == 0 && ((s.c : Int) == 0 && (s.d : Int) == 0)))) = true := by
  rw [okR_eq h] at h2; simpa using h2
theorem okR_good {k : Int} {s : Q4} {ks : List Rx} (h : wantK k = (ks.length : Int)) (h2 : okR (.mk k s ks) = true) : ((k == 3) == ((s.a : Int) == 0 && ((s.b : Int) == 0 && ((s.c : Int) == 0 && (s.d : Int) == 0)))) = false := by
  rw [okR_eq h] at h2; simpa using h2

theorem RxC.six {w : World} {B n : Nat} {r : Rx} {cs : List Value} (h : RxC w B n r cs) : ∃ (a b c d e : Int) (A : Option Addr) (l cap : Nat), cs = [.int .i64 a, .int .u64 b, .int .u64 c, .int .u64 d, .int .u64 e, .slice A l cap] := by
  cases n with
  | zero => exact h.elim
  | succ n =>
    obtain ⟨_, _, A, cap, rfl, _⟩ := h
    exact ⟨_, _, _, _, _, _, _, _, rfl⟩
theorem six_cells {w w' : World} {B i : Nat} {ad : Addr} {c0 c1 c2 c3 c4 c5 : Value} (h : ∀ j u, [c0, c1, c2, c3, c4, c5][j]? = some u → w.cell? (ad.add (i * 6 + j)) = some u) (hb : ad.block < B) (hk : Below B w w') :
    w'.cell? (ad.add (i * 6)) = some c0 ∧ w'.cell? ⟨(ad.add (i * 6)).block, (ad.add (i * 6)).off + 1, none⟩ = some c1 ∧ w'.cell? ⟨(ad.add (i * 6)).block, (ad.add (i * 6)).off + 2, none⟩ = some c2 ∧ w'.cell? ⟨(ad.add (i * 6)).block, (ad.add (i * 6)).off + 3, none⟩ = some c3 ∧ w'.cell? ⟨(ad.add (i * 6)).block, (ad.add (i * 6)).off + 4, none⟩ = some c4 ∧ w'.cell? ⟨(ad.add (i * 6)).block, (ad.add (i * 6)).off + 5, none⟩ = some c5 := by
  have e : ∀ j u, [c0, c1, c2, c3, c4, c5][j]? = some u → w'.cell? ((ad.add (i * 6)).add j) = some u := fun j u hu => by
    rw [add_of_add]
    exact (hk.cell (by rw [block_of_add]; exact hb)).trans (h j u hu)
  exact ⟨e 0 _ rfl, e 1 _ rfl, e 2 _ rfl, e 3 _ rfl, e 4 _ rfl, e 5 _ rfl⟩
/-- the answer of a look -/
def LookRes (p : Int × Nat) (g : Nat) (w : World) (e : Ending) (w' : World) : Prop := e = .returned (.int .i64 p.1) ∧ Blk w' g 3 #[.int .i64 (p.2 : Int)] ∧ KeptOff w w' g

def CheckOk (n : Nat) : Prop := ∀ (r : Rx) (cs : List Value) (deep : Int) (m g B : Nat) (w : World), RxC w B n r cs → B ≤ g → Blk w g 3 #[.int .i64 (m : Int)] → m ≤ 80 → 0 ≤ deep → deep ≤ 21 →
    Calls Try.prog 31 #[.agg cs.toArray, .int .i64 deep, .pointer (some ⟨g, 0, none⟩)] w (LookRes (chk n r deep m) g w)
set_option maxHeartbeats 1000000 in
theorem check_step (n : Nat) (ih : CheckOk n) : CheckOk (n + 1) := by
    rintro ⟨k, s, ks⟩ cs deep m g B w ⟨hs, hk, A, cap, e, hlc, hcap, hblk, hel⟩ hBg hB hm hd0 hd1
    have HI := Lib.hid ih
    clear ih
    subst e
    simp only [Rx.k, Rx.s, Rx.ks] at hs hk hlc hcap hblk hel ⊢
    have ecs : (rexCs k s A ks.length cap).toArray = #[.int .i64 k, .int .u64 (s.a : Int), .int .u64 (s.b : Int), .int .u64 (s.c : Int), .int .u64 (s.d : Int), .slice A ks.length cap] := rfl
    rw [ecs]
    clear ecs
    have HB := Lib.hid hB
    have k0 : w.cell? ⟨g, 0, none⟩ = some (.int .i64 (m : Int)) := hB.cell 0
    have f0 : w.frozen? ⟨g, 0, none⟩ = false := hB.frozen 0
    have hg := hB.lt
    have hne : ¬ g = w.heap.size := by omega
    clear hB
    by_cases c1 : 80 < m + 1
    · rw [chk_many c1]
      obtain rfl : m = 80 := by omega
      go_enter Try.func31, Try.ntmps31
      go_wp2_with fail
      go_ret
      exact ⟨rfl, (HB.out.set_ 0 _).alloc _, (KeptOff.refl.set_ 0 _).alloc _⟩
    · by_cases c2 : 20 < deep
      · rw [chk_deep c1 c2]
        have e1 : IntKind.i64.wrap ((m : Int) + 1) = (m : Int) + 1 := IntWalk.i64_in _ (by omega)
        go_enter Try.func31, Try.ntmps31
        go_wp2_with fail
        go_ret
        exact ⟨rfl, (HB.out.set_ 0 _).alloc _, (KeptOff.refl.set_ 0 _).alloc _⟩
      · by_cases c3 : wantK k = (ks.length : Int)
        · have e3 : (wantK k == (ks.length : Int)) = true := by rw [c3]; exact beq_self_eq_true _
          have e4 : (wantK k != (ks.length : Int)) = false := by rw [bne, e3]; rfl
          by_cases c4 : okR (.mk k s ks) = false
          · rw [chk_bad c1 c2 c4]
            have e5 := okR_bad c3 c4
            clear c3 c4
            go_enter Try.func31, Try.ntmps31
            go_wp2_with fail
            go_quiet (first | (go_at_call 48; exact quiet_left (kids_any _ _)))
            go_wp2_with fail
            go_ret
            exact ⟨rfl, ((HB.out.set_ 0 _).alloc _).drewN _, ((KeptOff.refl.set_ 0 _).alloc _).drewN _⟩
          · have c5 : okR (.mk k s ks) = true := by simpa using c4
            rw [chk_kids c1 c2 c5]
            simp only [Rx.ks]
            have e5 := okR_good c3 c5
            have hl2 : ks.length ≤ 2 := by have := wantK_3 k; omega
            clear c3 c4 c5
            go_enter Try.func31, Try.ntmps31
            go_wp2_with fail
            go_quiet (first | (go_at_call 48; exact quiet_left (kids_any _ _)))
            go_wp2_with fail
            go_loopw [44] (fun i wr => ∃ j m' : Nat, i = .int .i64 (j : Int) ∧ j ≤ ks.length ∧ m' ≤ 80 ∧ Hid (chkL (fun k m => chk n k (deep + 1) m) (ks.drop 0) (m + 1) = chkL (fun k m => chk n k (deep + 1) m) (ks.drop j) m') ∧ Blk wr g 3 #[.int .i64 (m' : Int)] ∧ KeptOff w wr g) (fun i _ => ks.length - (intOf i).toNat)
            case atStart => exact ⟨0, m + 1, rfl, Nat.zero_le _, by omega, rfl, ((HB.out.set_ 0 _).alloc _).drewN _, ((KeptOff.refl.set_ 0 _).alloc _).drewN _⟩
            case round =>
              obtain ⟨j, m', rfl, hj, hm', HC, hB', hK'⟩ := hrel
              have HB' := Lib.hid hB'
              have HK' := Lib.hid hK'
              have hz' := hK'.size
              clear hB' hK'
              by_cases hlt : j < ks.length
              · obtain ⟨ad, cs', rfl, hc, hr⟩ := hel j ks[j] (List.getElem?_eq_getElem hlt)
                obtain ⟨_, e', hb⟩ := hblk (by omega)
                injection e' with e'; subst e'
                have HR := Lib.hid (hr.below (HK'.out.below (by omega) hBg))
                obtain ⟨c0, c1, c2, c3, c4, A5, l5, cap5, rfl⟩ := hr.six
                obtain ⟨d0, d1, d2, d3, d4, d5⟩ := six_cells (w' := wr) hc hb (HK'.out.below (by omega) hBg)
                have IH : ∀ wx : World, RxC wx B n ks[j] [.int .i64 c0, .int .u64 c1, .int .u64 c2, .int .u64 c3, .int .u64 c4, .slice A5 l5 cap5] → Blk wx g 3 #[.int .i64 (m' : Int)] → Calls Try.prog 31 #[.agg #[.int .i64 c0, .int .u64 c1, .int .u64 c2, .int .u64 c3, .int .u64 c4, .slice A5 l5 cap5], .int .i64 (deep + 1), .pointer (some ⟨g, 0, none⟩)] wx (LookRes (chk n ks[j] (deep + 1) m') g wx) := fun wx h1 h2 => HI.out ks[j] [.int .i64 c0, .int .u64 c1, .int .u64 c2, .int .u64 c3, .int .u64 c4, .slice A5 l5 cap5] (deep + 1) m' g B wx h1 hBg h2 hm' (by omega) (by omega)
                have HIH := Lib.hid IH
                have hlo := chk_lo n ks[j] (deep + 1) m'
                obtain ⟨p, hp⟩ : ∃ p, chk n ks[j] (deep + 1) m' = p := ⟨_, rfl⟩
                rw [hp] at hlo
                have HP := Lib.hid hp
                obtain ⟨E, M⟩ := p
                obtain ⟨hlo1, hlo2⟩ := hlo
                have HX : Hid (ks[j]? = some ks[j]) := List.getElem?_eq_getElem hlt
                have hM : E = 0 → M ≤ 80 := fun h => hlo2 h hm'
                have HM := Lib.hid hM
                clear hc hr hel IH hp hlo1 hlo2 hM
                have hBw : B ≤ wr.heap.size := by omega
                by_cases h0 : E = 0
                · subst h0
                  have hM80 := HM.out rfl
                  have HC2 : Hid (chkL (fun k m => chk n k (deep + 1) m) (ks.drop 0) (m + 1) = chkL (fun k m => chk n k (deep + 1) m) (ks.drop (j + 1)) M) := by show _ = _; rw [HC.out]; exact chkL_more HX.out HP.out
                  go_wp2_with fail
                  refine (HIH.out _ (HR.out.alloc hBw _) ((HB'.out.alloc _))).mono ?_
                  rintro e w2 ⟨rfl, hb2, hk2⟩
                  rw [HP.out] at hb2 ⊢
                  have HB2 := Lib.hid hb2
                  have HK2 := Lib.hid ((HK'.out.alloc _).tr hk2)
                  clear hb2 hk2
                  go_wp2_with fail
                  go_roundw
                  case rel => exact ⟨j + 1, M, by go_num, by omega, hM80, HC2, HB2.out, HK2.out⟩
                  case measure => simp [intOf]; omega
                · have HC2 : Hid (chkL (fun k m => chk n k (deep + 1) m) (ks.drop 0) (m + 1) = (E, M)) := by show _ = _; rw [HC.out]; exact chkL_bad HX.out HP.out h0
                  have e0 : (E == 0) = false := int_beq h0
                  have e1 : (E != 0) = true := by rw [bne, e0]; rfl
                  clear h0
                  go_wp2_with fail
                  refine (HIH.out _ (HR.out.alloc hBw _) ((HB'.out.alloc _))).mono ?_
                  rintro e w2 ⟨rfl, hb2, hk2⟩
                  rw [HP.out] at hb2 ⊢
                  have HB2 := Lib.hid hb2
                  have HK2 := Lib.hid ((HK'.out.alloc _).tr hk2)
                  clear hb2 hk2
                  go_wp2_with fail
                  go_ret
                  exact ⟨by rw [HC2.out]; rfl, by rw [HC2.out]; exact HB2.out, HK2.out⟩
              · have HE : Hid (chkL (fun k m => chk n k (deep + 1) m) (ks.drop 0) (m + 1) = (0, m')) := by show _ = _; rw [HC.out]; exact chkL_end (by omega)
                go_wp2_with fail
                go_ret
                exact ⟨by rw [HE.out]; rfl, by rw [HE.out]; exact HB'.out, HK'.out⟩
        · have e3 : (wantK k == (ks.length : Int)) = false := int_beq c3
          have e4 : (wantK k != (ks.length : Int)) = true := by rw [bne, e3]; rfl
          rw [chk_bad c1 c2 (okR_off c3)]
          clear c3
          go_enter Try.func31, Try.ntmps31
          go_wp2_with fail
          go_quiet (first | (go_at_call 48; exact quiet_left (kids_any _ _)))
          go_wp2_with fail
          go_ret
          exact ⟨rfl, ((HB.out.set_ 0 _).alloc _).drewN _, ((KeptOff.refl.set_ 0 _).alloc _).drewN _⟩
theorem check_any : ∀ n, CheckOk n
  | 0 => fun _ _ _ _ _ _ _ h => h.elim
  | n + 1 => check_step n (check_any n)
end Go.Proofs.Ytkdcgkdbieeijaa
