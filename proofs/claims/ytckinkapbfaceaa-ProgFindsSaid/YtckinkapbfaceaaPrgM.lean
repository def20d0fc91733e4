/- Walk: wickref.Runs$1 (what is come to is marked). -/
import Derived.Test.YtckinkapbfaceaaPrgL
import Derived.Test.YtckinkapbfaceaaPrgC
namespace Go.Proofs.Ytckinkapbfaceaa
open Go.RowKit
set_option linter.unusedVariables false
set_option linter.unusedSimpArgs false

def Go1Res (w wr : World) (g n gh hb N gm q : Nat) (T : Nat → Nat → Bool) (H : Nat → Bool) (m : Bool) (e : Ending) (w' : World) : Prop :=
  e = .returned (.tuple #[]) ∧ RnW w w' g n gh hb N T (upB H q) ∧ Blk w' gm 4 #[.bool (m || !H q)]
section
variable (w wr : World) (g n gh hb N gm q : Nat) (T : Nat → Nat → Bool) (H : Nat → Bool) (m : Bool)
theorem go1_res (hw : RnW w wr g n gh hb N T H) (hm : Blk wr gm 4 #[.bool m]) (h1 : g + (n + 1) < gm) (h2 : gm ≠ gh) (h3 : gm ≠ hb) (hq : q < N) (b : Bool) (e : b = (m || !H q)) :
    Go1Res w wr g n gh hb N gm q T H m (.returned (.tuple #[])) ((wr.setCell ⟨gm, 0, none⟩ (.bool b)).setCell ⟨hb, q, none⟩ (.bool true)) := by
  subst e
  exact ⟨rfl, (hw.far (p := ⟨gm, 0, none⟩) h1 h2 h3 _).mark hq, (hm.set_ 0 _).far (p := ⟨hb, q, none⟩) h3 _⟩
set_option maxHeartbeats 1000000 in
theorem go1_any (hw : RnW w wr g n gh hb N T H) (hm : Blk wr gm 4 #[.bool m]) (h1 : g + (n + 1) < gm) (h2 : gm ≠ gh) (h3 : gm ≠ hb) (hq : q < N) (hN : N ≤ 1000000) :
    Calls Try.prog 53 #[.int .i64 (q : Int), .pointer (some ⟨gm, 0, none⟩), .pointer (some ⟨gh, 0, none⟩)] wr (Go1Res w wr g n gh hb N gm q T H m) := by
  have m0 : wr.cell? ⟨gm, 0, none⟩ = some (.bool m) := hm.cell 0
  have m1 : wr.frozen? ⟨gm, 0, none⟩ = false := hm.frozen 0
  have b0 : wr.cell? ⟨gh, 0, none⟩ = some (.slice (some ⟨hb, 0, none⟩) N N) := hw.here.cell 0
  have r0 : wr.cell? ⟨hb, q, none⟩ = some (.bool (H q)) := hw.row.cell q hq
  have r1 : wr.frozen? ⟨hb, q, none⟩ = false := hw.row.frozen q hq
  have i1 : (0 : Int) ≤ (q : Int) := by omega
  have i2 : (q : Int) < (N : Int) := by omega
  have HQ := Lib.hid (go1_res w wr g n gh hb N gm q T H m hw hm h1 h2 h3 hq)
  have d1 : gh ≠ gm := Ne.symm h2
  have d2 : hb ≠ gm := Ne.symm h3
  clear hw hm
  cases m with
  | true =>
    go_enter Try.func53, Try.ntmps53
    go_wp2_with fail
    go_end0
    exact HQ.out true rfl
  | false =>
    cases hv : H q with
    | true =>
      rw [hv] at r0
      have HV := Lib.hid hv
      clear hv
      go_enter Try.func53, Try.ntmps53
      go_wp2_with fail
      go_end0
      exact HQ.out false (by rw [HV.out]; rfl)
    | false =>
      rw [hv] at r0
      have HV := Lib.hid hv
      clear hv
      go_enter Try.func53, Try.ntmps53
      go_wp2_with fail
      go_end0
      exact HQ.out true (by rw [HV.out]; rfl)
end
section
variable {l : List In} {s : List UInt8} {i a k : Nat} {H H0 : Nat → Bool} {M : Bool} {a' b' : Nat}
theorem PaSt.off (h : PaSt l s i a H0 H k M) (hH : H k = false) : PaSt l s i a H0 H (k + 1) M := h.next fun q h2 => by rw [hH] at h2; cases h2
theorem PaSt.zero (h : PaSt l s i a H0 H k M) (hs : ∀ q, Eps l s.length a k q ↔ q ∈ ([] : List Nat)) : PaSt l s i a H0 H (k + 1) M := h.next fun q _ e => absurd ((hs q).1 e) (by simp)
theorem PaSt.one (hr : RightP l) (h : PaSt l s i a H0 H k M) (hk : k < l.length) (hH : H k = true) (hs : ∀ q, Eps l s.length a k q ↔ q ∈ [a']) : PaSt l s i a H0 (upB H a') (k + 1) (M || !H a') :=
  (h.go hr hk hH ((hs a').2 (by simp))).next fun q _ e => by
    have := (hs q).1 e
    rw [List.mem_singleton] at this
    subst this; exact upB_same _ _
theorem PaSt.two (hr : RightP l) (h : PaSt l s i a H0 H k M) (hk : k < l.length) (hH : H k = true) (hs : ∀ q, Eps l s.length a k q ↔ q ∈ [b', a']) : PaSt l s i a H0 (upB (upB H a') b') (k + 1) (M || !H a' || !upB H a' b') :=
  ((h.go hr hk hH ((hs a').2 (by simp))).go hr hk (upB_mono hH) ((hs b').2 (by simp))).next fun q _ e => by
    have := (hs q).1 e
    simp only [List.mem_cons, List.not_mem_nil, or_false] at this
    rcases this with e | e
    · subst e; exact upB_same _ _
    · subst e; exact upB_mono (upB_same _ _)
end
theorem upd_false {T : Nat → Nat → Bool} {i a : Nat} (h : T i a = false) (x y : Nat) : T x y = upd T i a false x y := by
  unfold upd
  by_cases e : x = i
  · subst e
    rw [if_pos rfl]
    by_cases e2 : y = a
    · subst e2; rw [if_pos rfl, h]
    · rw [if_neg e2]
  · rw [if_neg e]
theorem upd_upd (T : Nat → Nat → Bool) (i a : Nat) (b c : Bool) (x y : Nat) : upd (upd T i a b) i a c x y = upd T i a c x y := by
  unfold upd
  by_cases e : x = i
  · rw [if_pos e, if_pos e, if_pos e]
    by_cases e2 : y = a
    · rw [if_pos e2, if_pos e2]
    · rw [if_neg e2, if_neg e2, if_neg e2]
  · rw [if_neg e, if_neg e, if_neg e]
end Go.Proofs.Ytckinkapbfaceaa
