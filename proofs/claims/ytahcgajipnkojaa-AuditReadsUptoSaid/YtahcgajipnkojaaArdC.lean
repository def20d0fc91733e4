/- Plain: what a record's bytes decode to; what is known of the world while a record is read. -/
import Derived.Test.YtahcgajipnkojaaArdB
import Derived.Test.YtahcgajipnkojaaAudE
import Derived.Test.YtahcgajipnkojaaIntA
namespace Go.Proofs.Ytahcgajipnkojaa
open Go.RowKit
set_option linter.unusedVariables false
set_option linter.unusedSimpArgs false

structure Rc where
  c : Int
  o : Int
  b : Int
  s : Int
  ms : List Int
  t : List UInt8
def Rc.zero : Rc := ⟨0, 0, 0, 0, [], []⟩
def rdMany (l : List UInt8) : Nat → Nat × Int → List Int × Nat × Int
  | 0, st => ([], st.1, st.2)
  | k + 1, st => ((rdMany l k st).1 ++ [(rd l (-1) (rdMany l k st).2).1], (rd l (-1) (rdMany l k st).2).2)
/-- the error, the record, how many bytes it takes -/
def decF (l : List UInt8) : Int × Rc × Nat :=
  if l = [] then (7, Rc.zero, 0)
  else if l.getD 0 0 ≠ 82 then (4, Rc.zero, 0)
  else
    let q1 := rd l (-1) (1, 0)
    let q2 := rd l (-1) q1.2
    let q3 := rd l (-1) q2.2
    let q4 := rd l (-1) q3.2
    let q5 := rd l 40 q4.2
    let p := rdMany l q5.1.toNat q5.2
    let q6 := rd l 1000 p.2
    if q6.2.2 ≠ 0 then (q6.2.2, Rc.zero, 0)
    else if (l.length : Int) - q6.2.1 < q6.1 then (7, Rc.zero, 0)
    else if recE q1.1 q2.1 q3.1 q4.1 p.1 q6.1.toNat ≠ 0 then (recE q1.1 q2.1 q3.1 q4.1 p.1 q6.1.toNat, Rc.zero, 0)
    else (0, ⟨q1.1, q2.1, q3.1, q4.1, p.1, (l.drop q6.2.1).take q6.1.toNat⟩, q6.2.1 + q6.1.toNat)
theorem decF_eq {l : List UInt8} {x1 x2 x3 x4 x5 x6 e1 e2 e3 e4 e5 ep e6 : Int} {a1 a2 a3 a4 a5 ap a6 : Nat} {L : List Int} (hl : ¬ l = []) (h0 : l.getD 0 0 = 82)
    (h1 : rd l (-1) (1, 0) = (x1, a1, e1)) (h2 : rd l (-1) (a1, e1) = (x2, a2, e2)) (h3 : rd l (-1) (a2, e2) = (x3, a3, e3)) (h4 : rd l (-1) (a3, e3) = (x4, a4, e4)) (h5 : rd l 40 (a4, e4) = (x5, a5, e5))
    (hp : rdMany l x5.toNat (a5, e5) = (L, ap, ep)) (h6 : rd l 1000 (ap, ep) = (x6, a6, e6)) :
    decF l = if e6 ≠ 0 then (e6, Rc.zero, 0) else if (l.length : Int) - a6 < x6 then (7, Rc.zero, 0) else if recE x1 x2 x3 x4 L x6.toNat ≠ 0 then (recE x1 x2 x3 x4 L x6.toNat, Rc.zero, 0)
      else (0, ⟨x1, x2, x3, x4, L, (l.drop a6).take x6.toNat⟩, a6 + x6.toNat) := by
  unfold decF
  rw [if_neg hl, if_neg (by rw [h0]; decide)]
  simp only [h1, h2, h3, h4, h5, hp, h6]
theorem rd_bd (l : List UInt8) (m : Int) (st : Nat × Int) : 0 ≤ (rd l m st).1 ∧ (rd l m st).1 < 4294967296 ∧ (0 ≤ m → (rd l m st).1 ≤ m) := by
  have h := accN_lt (l.drop st.1) 4
  unfold rd
  split
  · exact ⟨by simp, by simp, fun h => h⟩
  · split
    · exact ⟨by simp, by simp, fun h => h⟩
    · split
      · exact ⟨by simp, by simp, fun h => h⟩
      · next hn =>
        refine ⟨by simp only []; omega, by simp only []; omega, fun hm => ?_⟩
        simp only []; omega
theorem rd_bds {l : List UInt8} {m : Int} {a : Nat} {e x : Int} {a' : Nat} {e' : Int} (h : rd l m (a, e) = (x, a', e')) : 0 ≤ x ∧ x < 4294967296 ∧ (0 ≤ m → x ≤ m) := by
  have := rd_bd l m (a, e); rw [h] at this; exact this
theorem rd_ats {l : List UInt8} {m : Int} {a : Nat} {e x : Int} {a' : Nat} {e' : Int} (h : rd l m (a, e) = (x, a', e')) (ha : a ≤ l.length) : a' ≤ l.length ∧ a ≤ a' := by
  have := rd_at l m a e ha; rw [h] at this; exact this
theorem rdMany_at (l : List UInt8) : ∀ (k : Nat) (a : Nat) (e : Int), a ≤ l.length → (rdMany l k (a, e)).2.1 ≤ l.length ∧ a ≤ (rdMany l k (a, e)).2.1 ∧ (rdMany l k (a, e)).1.length = k
  | 0, a, e, h => ⟨h, Nat.le_refl _, rfl⟩
  | k + 1, a, e, h => by
    obtain ⟨h1, h2, h3⟩ := rdMany_at l k a e h
    have h4 := rd_at l (-1) (rdMany l k (a, e)).2.1 (rdMany l k (a, e)).2.2 h1
    exact ⟨h4.1, Nat.le_trans h2 h4.2, by simp only [rdMany, List.length_append, h3]; rfl⟩

def zrec : Array Value := #[.int .i64 0, .int .i64 0, .int .i64 0, .int .i64 0, .slice none 0 0, .string { data := #[] }]
/-- what both decoders return -/
def DecRes (l : List UInt8) (w : World) (e : Ending) (w' : World) : Prop := Below w.heap.size w w' ∧
  ((∃ E : Int, E ≠ 0 ∧ decF l = (E, Rc.zero, 0) ∧ e = .returned (.tuple #[.agg zrec, .int .i64 0, .int .i64 E])) ∨
   (∃ (r : Rc) (n : Nat) (A : Option Addr) (cap : Nat), decF l = (0, r, n) ∧ e = .returned (.tuple #[recV r.c r.o r.b r.s A r.ms.length cap (str r.t), .int .i64 n, .int .i64 0]) ∧ OI w' w.heap.size (.slice A r.ms.length cap) r.ms ∧ n ≤ l.length ∧ 1 ≤ n))

/-- the world while audit.Decode reads: the result's block, the reader's, the record's -/
structure Dst (w0 w : World) (s : ByteArray) (a : Nat) (e : Int) (res out : Array Value) : Prop where
  hr : Blk w w0.heap.size 32 res
  hk : Blk w (w0.heap.size + 1) 60 (rdrV s a e)
  ho : Blk w (w0.heap.size + 1 + 1) 32 out
  hb : Below w0.heap.size w0 w
theorem Dst.read {w0 w w' : World} {s : ByteArray} {a a' : Nat} {e e' : Int} {res out : Array Value} (h : Dst w0 w s a e res out) (hk : Blk w' (w0.heap.size + 1) 60 (rdrV s a' e')) (hq : KeptBut w w' (w0.heap.size + 1)) : Dst w0 w' s a' e' res out :=
  ⟨hq.blk h.hr (by omega), hk, hq.blk h.ho (by omega), h.hb.trans ⟨hq.os, hq.tape, hq.output, hq.size, fun k hk => hq.block k (by have := h.hr.lt; omega) (by intro e; injection e with e; omega)⟩⟩
theorem Dst.outSet {w0 w : World} {s : ByteArray} {a : Nat} {e : Int} {res out : Array Value} (h : Dst w0 w s a e res out) (i : Nat) (u : Value) : Dst w0 (w.setCell ⟨w0.heap.size + 1 + 1, i, none⟩ u) s a e res (out.setIfInBounds i u) :=
  ⟨h.hr.far (by simp; omega) _, h.hk.far (by simp) _, h.ho.set_ _ _, h.hb.setCell (by simp; omega) _⟩
theorem Dst.resSet {w0 w : World} {s : ByteArray} {a : Nat} {e : Int} {res out : Array Value} (h : Dst w0 w s a e res out) (i : Nat) (u : Value) : Dst w0 (w.setCell ⟨w0.heap.size, i, none⟩ u) s a e (res.setIfInBounds i u) out :=
  ⟨h.hr.set_ _ _, h.hk.far (by simp) _, h.ho.far (by simp; omega) _, h.hb.setCell (by simp) _⟩
theorem Dst.alloc {w0 w : World} {s : ByteArray} {a : Nat} {e : Int} {res out : Array Value} (h : Dst w0 w s a e res out) (o : Obj) : Dst w0 (w.alloc o) s a e res out := ⟨h.hr.alloc _, h.hk.alloc _, h.ho.alloc _, h.hb.alloc h.hb.size _⟩
theorem Dst.drew {w0 w : World} {s : ByteArray} {a : Nat} {e : Int} {res out : Array Value} (h : Dst w0 w s a e res out) : Dst w0 w.drew s a e res out := ⟨h.hr, h.hk, h.ho, h.hb.drew⟩
theorem Dst.drewN {w0 w : World} {s : ByteArray} {a : Nat} {e : Int} {res out : Array Value} (h : Dst w0 w s a e res out) (n : Nat) : Dst w0 (w.drewN n) s a e res out := ⟨h.hr, h.hk, h.ho, below_drewN h.hb n⟩
theorem Dst.grew {w0 w w' : World} {s : ByteArray} {a : Nat} {e : Int} {res out : Array Value} (h : Dst w0 w s a e res out) {v v' : Value} (hg : Grew w w' v v') (hv : ∀ g, v.ownBlock = some g → w0.heap.size + 3 ≤ g) : Dst w0 w' s a e res out :=
  ⟨hg.blk h.hr (fun q => by have := hv _ q; omega), hg.blk h.hk (fun q => by have := hv _ q; omega), hg.blk h.ho (fun q => by have := hv _ q; omega), h.hb.trans (hg.below h.hb.size (fun g q => by have := hv g q; omega))⟩
theorem Dst.below {w0 w w' : World} {s : ByteArray} {a : Nat} {e : Int} {res out : Array Value} (h : Dst w0 w s a e res out) (hb : Below w.heap.size w w') : Dst w0 w' s a e res out :=
  ⟨h.hr.below hb h.hr.lt, h.hk.below hb h.hk.lt, h.ho.below hb h.ho.lt, h.hb.trans (hb.mono h.hb.size)⟩

theorem OI.keptBut {w w' : World} {B g : Nat} {v : Value} {l : List Int} (h : OI w B v l) (hq : KeptBut w w' g) (hg : g < B) : OI w' B v l := by
  refine World.ownsRow.kept (row := some g) h hq ?_
  by_cases e : v.ownBlock = none
  · exact .inl e
  · refine .inr fun e2 => ?_
    have := (World.ownsRow.lt h g e2).1
    omega
theorem rdA_dst {s : ByteArray} {a : Nat} {e m : Int} {w0 w : World} {res out : Array Value} {mv : Value} {L : List Int} (hm : 0 ≤ m) (hD : Dst w0 w s a e res out) (ho : OI w (w0.heap.size + 1 + 1 + 1) mv L) (hs : s.size ≤ 140737488355320) (ha : a ≤ s.size) {x : Int} {a' : Nat} {e' : Int} (h : rd s.data.toList m (a, e) = (x, a', e')) :
    Calls Try.prog 60 #[.pointer (some ⟨w0.heap.size + 1, 0, none⟩), .int .i64 m] w fun y w' => y = .returned (.int .i64 x) ∧ Dst w0 w' s a' e' res out ∧ OI w' (w0.heap.size + 1 + 1 + 1) mv L :=
  (rdA_any s a e m (w0.heap.size + 1) w hm hD.hk hs ha h).mono fun _ _ ⟨h1, h2, h3⟩ => ⟨h1, hD.read h2 h3, ho.keptBut h3 (by omega)⟩
theorem step_dst {w0 w : World} {s : ByteArray} {a0 : Nat} {e : Int} {res out : Array Value} {mv : Value} {L : List Int} {x : Int} {ops : Array Oper} {o : Oper} {a : Act} {K : Act → World → Prop} {Q : Exit → Act → World → Prop} {E : Prop} (hgd : o.guard = none) (p q : Operand)
    (hop : o.op = .call { callee := .builtin .append, args := #[p, q], argTypes := #[24, 24] })
    (hD : Dst w0 w s a0 e res out) (ho : OI w (w0.heap.size + 1 + 1 + 1) mv L) (hs : a.eval p = mv)
    (hx : a.eval q = .slice (some ⟨w.heap.size, 0, none⟩) 1 1) (hlen : L.length ≤ 1000000)
    (hK : ∀ A' c' w', OI w' (w0.heap.size + 1 + 1 + 1) (.slice A' (L.length + 1) c') (L ++ [x]) → Dst w0 w' s a0 e res out → K (a.put o.dst (.slice A' (L.length + 1) c')) w') :
    if Region.wanted o (yielded ops a.tmps) = true then Oper.wp Try.prog o a (w.alloc (.cells #[.int .i64 x] 3)) K Q else E := by
  obtain ⟨i0, hi, hz0, hz1, hz2⟩ := info_parts infoInt
  have hsz : w0.heap.size + 1 + 1 + 1 ≤ w.heap.size := by have := hD.ho.lt; omega
  refine step_appG hgd p q hop Try.underlying24 hi hz0 hz1 hz2 rfl (by decide) ho hs [.int .i64 x] 1 1 hx rfl (by intro u hu; rw [List.mem_singleton] at hu; rw [hu]; rfl) (by unfold maxLen; omega) (by omega) hsz fun v' w' h2 h3 => ?_
  have h4 : OI w' (w0.heap.size + 1 + 1 + 1) v' (L ++ [x]) := by
    unfold OI
    rw [List.length_append, List.map_append]
    exact h2
  obtain ⟨A', c', rfl⟩ := h4.form
  rw [List.length_append] at h4 ⊢
  exact hK A' c' w' h4 (hD.grew h3 (own_from ho))
end Go.Proofs.Ytahcgajipnkojaa
