/- How a body is written in chunks (P28), plainly; the boxes: the text that is left, the builder. -/
import Derived.Test.YtkcncgdgicffhaaDoorGag
import Derived.Test.YtkcncgdgicffhaaDoorGah
import Derived.Deep.RegionHeld3
namespace Go.Proofs.YtkcncgdgicffhaaDoor
open Go.RowKit
set_option linter.unusedVariables false
set_option linter.unusedSimpArgs false

/-- one chunk -/
def putL (s : List UInt8) (k : Nat) : List UInt8 := fmtL k ++ [13, 10] ++ s.take k ++ [13, 10]
/-- what is out, what is left; behind one more number -/
def stepK (st : List UInt8 × List UInt8) (n : Int) : List UInt8 × List UInt8 :=
  if 0 < n ∧ st.2 ≠ [] then (st.1 ++ putL st.2 (min n st.2.length).toNat, st.2.drop (min n st.2.length).toNat) else st
def runK (s : List UInt8) (ns : List Int) : List UInt8 × List UInt8 := ns.foldl stepK ([], s)
def chunkedL (s : List UInt8) (ns : List Int) : List UInt8 :=
  (if (runK s ns).2 = [] then (runK s ns).1 else (runK s ns).1 ++ putL (runK s ns).2 (runK s ns).2.length) ++ [48, 13, 10, 13, 10]
theorem fmtL_len (n : Nat) : (fmtL n).length ≤ 16 := by have := hxL_len 16 n []; simpa [fmtL] using this
theorem putL_len {s : List UInt8} {k : Nat} (h : k ≤ s.length) : (putL s k).length ≤ 20 + k := by
  have := fmtL_len k
  unfold putL
  simp only [List.length_append, List.length_take, List.length_cons, List.length_nil]
  omega
theorem runK_snoc (s : List UInt8) (ns : List Int) (n : Int) : runK s (ns ++ [n]) = stepK (runK s ns) n := by unfold runK; rw [List.foldl_append]; rfl
theorem stepK_bd (st : List UInt8 × List UInt8) (n : Int) : (stepK st n).1.length + 21 * (stepK st n).2.length ≤ st.1.length + 21 * st.2.length := by
  unfold stepK
  split
  · next h =>
    have hne : 0 < st.2.length := List.length_pos_iff.2 h.2
    have hk : (min n st.2.length).toNat ≤ st.2.length := by omega
    have hk0 : 1 ≤ (min n st.2.length).toNat := by omega
    have := putL_len hk
    simp only [List.length_append, List.length_drop]
    omega
  · exact Nat.le_refl _
theorem runK_bd (s : List UInt8) (ns : List Int) : (runK s ns).1.length + 21 * (runK s ns).2.length ≤ 21 * s.length := by
  induction ns using snoc_ind with
  | h0 => simp [runK]
  | h1 l b ih => rw [runK_snoc]; exact Nat.le_trans (stepK_bd _ _) ih
theorem stepK_go {st : List UInt8 × List UInt8} {n : Int} {k : Nat} (h : 0 < n) (h2 : st.2 ≠ []) (hk : (k : Int) = min n st.2.length) : stepK st n = (st.1 ++ putL st.2 k, st.2.drop k) := by
  unfold stepK; rw [if_pos ⟨h, h2⟩, ← hk, Int.toNat_natCast]
theorem stepK_no {st : List UInt8 × List UInt8} {n : Int} (h : ¬ (0 < n ∧ st.2 ≠ [])) : stepK st n = st := by unfold stepK; rw [if_neg h]

/-- the boxes of frame.Chunked: the text that is left, the builder -/
structure Ck (w wr : World) (t : ByteArray) (out : List UInt8) : Prop where
  sx : Blk wr w.heap.size 9 #[.string t]
  bd : Bld wr (w.heap.size + 1) out
  be : Below w.heap.size w wr
section
variable {w wr wr' : World} {t : ByteArray} {out : List UInt8}
theorem Ck.lt (h : Ck w wr t out) : w.heap.size + 1 < wr.heap.size := h.bd.lt
theorem bldAt_below {p : Value} {bs : List Value} {B : Nat} {T e : TypeId} (h : Lib.BuilderAt T e B B p bs wr) (hb : Below wr.heap.size wr wr') : Lib.BuilderAt T e B B p bs wr' := by
  have hlt := h.lt
  obtain ⟨hB, v, hx, ho, hn⟩ := h
  refine ⟨hB, v, (hb.block _ hlt).trans hx, World.ownsRow.kept (row := none) ho ⟨hb.os, hb.tape, hb.output, hb.size, fun k hk _ => hb.block k hk⟩ ?_, hn⟩
  cases v.ownBlock <;> simp
theorem bldAt_set {p : Value} {bs : List Value} {B : Nat} {T e : TypeId} (h : Lib.BuilderAt T e B B p bs wr) {a : Addr} (ha : a.block < B) (u : Value) : Lib.BuilderAt T e B B p bs (wr.setCell a u) := by
  obtain ⟨hB, v, hx, ho, hn⟩ := h
  exact ⟨hB, v, (Below.heap_setCell _ a _ _ (by omega)).trans hx, ownsRow_setCell_below ho ha u, hn⟩
theorem Ck.step (h : Ck w wr t out) (hb : Below wr.heap.size wr wr') : Ck w wr' t out :=
  ⟨h.sx.below hb h.sx.lt, h.bd.elim (fun k => .inl (bldAt_below k hb)) (fun k => .inr (bldAt_below k hb)), h.be.trans (hb.mono h.be.size)⟩
theorem Ck.put (h : Ck w wr t out) (x : ByteArray) : Ck w (wr.setCell ⟨w.heap.size, 0, none⟩ (.string x)) x out :=
  ⟨h.sx.set_ 0 _, h.bd.elim (fun k => .inl (bldAt_set k (Nat.lt_succ_self _) _)) (fun k => .inr (bldAt_set k (Nat.lt_succ_self _) _)), h.be.setCell (p := ⟨w.heap.size, 0, none⟩) (Nat.le_refl _) _⟩
theorem Ck.wrote (h : Ck w wr t out) {out' : List UInt8} (hb : Below (w.heap.size + 1) wr wr') (hd : Bld wr' (w.heap.size + 1) out') : Ck w wr' t out' :=
  ⟨h.sx.below hb (Nat.lt_succ_self _), hd, h.be.trans (hb.mono (Nat.le_succ _))⟩
theorem Ck.facts (h : Ck w wr t out) : wr.cell? ⟨w.heap.size, 0, none⟩ = some (.string t) ∧ wr.frozen? ⟨w.heap.size, 0, none⟩ = false := ⟨h.sx.cell 0, h.sx.frozen 0⟩
end
set_option maxRecDepth 100000 in
set_option maxHeartbeats 4000000 in
/-- the closure: one chunk is written -/
theorem put_any (t : ByteArray) (out : List UInt8) (k : Nat) (w wr : World) (h : Ck w wr t out) (hk : k ≤ t.size) (ht : t.size ≤ 1048576) (ho : out.length ≤ 100000000) (hT : ToB w) (hg : 3 < w.heap.size) :
    Calls Tryd.prog 53 #[.int .i64 k, .pointer (some ⟨w.heap.size + 1, 0, none⟩), .pointer (some ⟨w.heap.size, 0, none⟩)] wr fun e w' => e = .returned (.tuple #[]) ∧ Ck w w' (t.extract k t.size) (out ++ putL t.data.toList k) := by
  have CF : Hid (∀ w', Ck w w' t out → Calls Tryd.prog 55 #[.int .i64 k, .int .i64 16] w' fun e w'' => e = .returned (.string (str (fmtL k))) ∧ Below w'.heap.size w' w'') := Lib.hid fun w' h => fmt_any k w' (by omega) (hT.below h.be hg) (Nat.lt_of_lt_of_le hg h.be.size)
  have hfl := fmtL_len k
  obtain ⟨F, hF⟩ : ∃ F, F = str (fmtL k) := ⟨_, rfl⟩
  have hFz : F.size = (fmtL k).length := by rw [hF, size_str]
  have hFz2 : F.size ≤ 16 := by omega
  rw [← hF] at CF
  obtain ⟨x, hx⟩ : ∃ x, t.extract 0 k = x := ⟨_, rfl⟩
  have hxz : x.size ≤ 1048576 := by rw [← hx, ByteArray.size_extract]; omega
  have HP : Hid ((F ++ ⟨#[13, 10]⟩ ++ x ++ ⟨#[13, 10]⟩).data.toList = putL t.data.toList k) := by
    show _ = _
    rw [lst_app, lst_app, lst_app, hF, ← hx, lst_mk, lst_ext, List.drop_zero]; rfl
  have hsz : (F ++ ⟨#[13, 10]⟩ ++ x ++ ⟨#[13, 10]⟩).size ≤ 2000000 := by
    rw [ByteArray.size_append, ByteArray.size_append, ByteArray.size_append]
    show F.size + 2 + x.size + 2 ≤ _
    omega
  have i1 : (0 : Int) ≤ (k : Int) := by omega
  have i2 : (k : Int) ≤ (t.size : Int) := by omega
  have hd := h.step (below_drewN (Below.refl _ _) 1 : Below wr.heap.size wr wr.drew)
  have HS : Hid (∀ w' out', Ck w w' t out' → w'.cell? ⟨w.heap.size, 0, none⟩ = some (.string t)) := Lib.hid fun w' out' h => h.sx.cell 0
  have s0 := h.sx.cell 0
  clear hF hFz h hT
  go_enter Tryd.func53, Tryd.ntmps53
  go_wp2_with fail
  have hv1 : ¬ 9223372036854775807 < F.size + 2 := by omega
  have hv2 : ¬ 9223372036854775807 < F.size + 2 + x.size := by omega
  have hv3 : ¬ 9223372036854775807 < F.size + 2 + x.size + 2 := by omega
  have hm1 : min k t.size = k := by omega
  go_region_held3 (fun w' => w'.cell? ⟨w.heap.size, 0, none⟩ = some (.string t)) (exact HS.out _ _ (by assumption))
    (first
      | (go_at_call 55; refine (CF.out _ hd).mono ?_; rintro e w' ⟨rfl, hb'⟩; have hs' := Ck.step hd hb')
      | (go_at_call 54; refine (write_any _ (Ck.bd hs') ?_).mono ?_; (next => omega); rintro e w'' ⟨rfl, hd', hb''⟩; have hs'' := Ck.wrote hs' hb'' hd')
      | fail)
  obtain ⟨c0, f0⟩ := hs''.facts
  have hfin := hs''.put (t.extract k t.size)
  rw [HP.out] at hfin
  have HF := Lib.hid hfin
  clear hs' hs'' hd hb' hb'' hd' hfin
  go_wp2_with fail
  go_end0
  exact ⟨rfl, HF.out⟩
end Go.Proofs.YtkcncgdgicffhaaDoor
