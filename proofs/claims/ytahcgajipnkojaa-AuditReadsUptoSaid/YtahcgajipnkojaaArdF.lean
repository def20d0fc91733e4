/- The closure of wickref.ReadRecord, whole; what is known of the world while wickref.ReadRecord reads. -/
import Derived.Test.YtahcgajipnkojaaArdC
import Derived.Test.YtahcgajipnkojaaArdE
namespace Go.Proofs.Ytahcgajipnkojaa
open Go.RowKit
set_option linter.unusedVariables false
set_option linter.unusedSimpArgs false

theorem rdR_any (s : ByteArray) (a : Nat) (e m : Int) (w : World) (ge gs ga : Nat) (hk : Seen w ge gs ga s a e) (hs : s.size ≤ 140737488355320) (ha : a ≤ s.size) {x : Int} {a' : Nat} {e' : Int} (h : rd s.data.toList m (a, e) = (x, a', e')) :
    Calls Try.prog 61 #[.int .i64 m, .pointer (some ⟨ge, 0, none⟩), .pointer (some ⟨gs, 0, none⟩), .pointer (some ⟨ga, 0, none⟩)] w fun y w' => y = .returned (.int .i64 x) ∧ Seen w' ge gs ga s a' e' ∧ KeptBut2 w w' ge ga := by
  by_cases he : e = 0
  · subst he
    by_cases h4 : s.size < a + 4
    · rw [rd_short (by rw [lst_len]; exact h4)] at h
      injection h with h1 h2
      injection h2 with h2 h3
      subst h1 h2 h3
      exact rdR_short s a m w ge gs ga hk (by omega) ha h4
    · by_cases hb : 0 ≤ m ∧ m < ((accN (s.data.toList.drop a) 4 : Nat) : Int)
      · rw [rd_over (by rw [lst_len]; exact h4) hb.1 hb.2] at h
        injection h with h1 h2
        injection h2 with h2 h3
        subst h1 h2 h3
        exact rdR_go s a m w ge gs ga hk hs (by omega) _ rfl true (decide_eq_true hb).symm
      · rw [rd_ok (by rw [lst_len]; exact h4) hb] at h
        injection h with h1 h2
        injection h2 with h2 h3
        subst h1 h2 h3
        exact rdR_go s a m w ge gs ga hk hs (by omega) _ rfl false (decide_eq_false hb).symm
  · rw [rd_wrong he] at h
    injection h with h1 h2
    injection h2 with h2 h3
    subst h1 h2 h3
    exact rdR_wrong s a e m w ge gs ga hk he

/-- the world while wickref.ReadRecord reads: the text, the result, the place, the error, the record -/
structure Rst (w0 w : World) (s : ByteArray) (a : Nat) (e : Int) (res out : Array Value) : Prop where
  sn : Seen w (w0.heap.size + 1 + 1 + 1) w0.heap.size (w0.heap.size + 1 + 1) s a e
  hr : Blk w (w0.heap.size + 1) 32 res
  ho : Blk w (w0.heap.size + 1 + 1 + 1 + 1) 32 out
  hb : Below w0.heap.size w0 w
section
variable {w0 w w' : World} {s : ByteArray} {a a' : Nat} {e e' : Int} {res out : Array Value}
theorem Seen.drew {ge gs ga : Nat} (h : Seen w ge gs ga s a e) : Seen w.drew ge gs ga s a e := ⟨h.he, h.hs, h.ha, h.n1, h.n2, h.n3⟩
theorem Seen.drewN {ge gs ga : Nat} (h : Seen w ge gs ga s a e) (n : Nat) : Seen (w.drewN n) ge gs ga s a e := ⟨h.he, h.hs, h.ha, h.n1, h.n2, h.n3⟩
theorem Seen.far {ge gs ga : Nat} (h : Seen w ge gs ga s a e) {p : Addr} (h1 : ge ≠ p.block) (h2 : gs ≠ p.block) (h3 : ga ≠ p.block) (u : Value) : Seen (w.setCell p u) ge gs ga s a e := ⟨h.he.far h1 _, h.hs.far h2 _, h.ha.far h3 _, h.n1, h.n2, h.n3⟩
theorem Seen.alloc {ge gs ga : Nat} (h : Seen w ge gs ga s a e) (o : Obj) : Seen (w.alloc o) ge gs ga s a e := ⟨h.he.alloc _, h.hs.alloc _, h.ha.alloc _, h.n1, h.n2, h.n3⟩
theorem Rst.read (h : Rst w0 w s a e res out) (hk : Seen w' (w0.heap.size + 1 + 1 + 1) w0.heap.size (w0.heap.size + 1 + 1) s a' e') (hq : KeptBut2 w w' (w0.heap.size + 1 + 1 + 1) (w0.heap.size + 1 + 1)) : Rst w0 w' s a' e' res out :=
  ⟨hk, hq.blk h.hr (by omega) (by omega), hq.blk h.ho (by omega) (by omega), h.hb.trans ⟨hq.os, hq.tape, hq.output, hq.size, fun k hk => hq.block k (by have := h.hr.lt; omega) (by omega) (by omega)⟩⟩
theorem Rst.outSet (h : Rst w0 w s a e res out) (i : Nat) (u : Value) : Rst w0 (w.setCell ⟨w0.heap.size + 1 + 1 + 1 + 1, i, none⟩ u) s a e res (out.setIfInBounds i u) :=
  ⟨h.sn.far (by simp) (by simp <;> omega) (by simp <;> omega) _, h.hr.far (by simp <;> omega) _, h.ho.set_ _ _, h.hb.setCell (by simp <;> omega) _⟩
theorem Rst.resSet (h : Rst w0 w s a e res out) (i : Nat) (u : Value) : Rst w0 (w.setCell ⟨w0.heap.size + 1, i, none⟩ u) s a e (res.setIfInBounds i u) out :=
  ⟨h.sn.far (by simp <;> omega) (by simp) (by simp) _, h.hr.set_ _ _, h.ho.far (by simp <;> omega) _, h.hb.setCell (by simp) _⟩
theorem Rst.errSet (h : Rst w0 w s a e res out) (u : Int) : Rst w0 (w.setCell ⟨w0.heap.size + 1 + 1 + 1, 0, none⟩ (.int .i64 u)) s a u res out :=
  ⟨⟨h.sn.he.set_ 0 _, h.sn.hs.far (by simp <;> omega) _, h.sn.ha.far (by simp) _, h.sn.n1, h.sn.n2, h.sn.n3⟩, h.hr.far (by simp <;> omega) _, h.ho.far (by simp) _, h.hb.setCell (by simp <;> omega) _⟩
theorem Rst.drew (h : Rst w0 w s a e res out) : Rst w0 w.drew s a e res out := ⟨h.sn.drew, h.hr, h.ho, h.hb.drew⟩
theorem Rst.drewN (h : Rst w0 w s a e res out) (n : Nat) : Rst w0 (w.drewN n) s a e res out := ⟨h.sn.drewN n, h.hr, h.ho, below_drewN h.hb n⟩
theorem Rst.below (h : Rst w0 w s a e res out) (hb : Below w.heap.size w w') : Rst w0 w' s a e res out :=
  ⟨⟨h.sn.he.below hb h.sn.he.lt, h.sn.hs.below hb h.sn.hs.lt, h.sn.ha.below hb h.sn.ha.lt, h.sn.n1, h.sn.n2, h.sn.n3⟩, h.hr.below hb h.hr.lt, h.ho.below hb h.ho.lt, h.hb.trans (hb.mono h.hb.size)⟩
theorem Rst.grew (h : Rst w0 w s a e res out) {v v' : Value} (hg : Grew w w' v v') (hv : ∀ g, v.ownBlock = some g → w0.heap.size + 5 ≤ g) : Rst w0 w' s a e res out :=
  ⟨⟨hg.blk h.sn.he (fun q => by have := hv _ q; omega), hg.blk h.sn.hs (fun q => by have := hv _ q; omega), hg.blk h.sn.ha (fun q => by have := hv _ q; omega), h.sn.n1, h.sn.n2, h.sn.n3⟩,
    hg.blk h.hr (fun q => by have := hv _ q; omega), hg.blk h.ho (fun q => by have := hv _ q; omega), h.hb.trans (hg.below h.hb.size (fun g q => by have := hv g q; omega))⟩
theorem ownsRow_blocks {w w' : World} {B : Nat} {E : TypeId} {size n : Nat} {v : Value} {xs : List Value} (h : w.ownsRow B E size v n xs) (hq : ∀ k, B ≤ k → k < w.heap.size → w'.heap[k]? = w.heap[k]?) : w'.ownsRow B E size v n xs := by
  refine ⟨h.1, ?_⟩
  rcases h.2 with h2 | ⟨g, cap, cur, e1, e2, e3, e4⟩
  · exact .inl h2
  · refine .inr ⟨g, cap, cur, e1, e2, ?_, e4⟩
    rw [hq g e2 (Blk.lt (t := E) (cs := cur) e3)]; exact e3
theorem rdR_rst {mv : Value} {L : List Int} {m : Int} (hD : Rst w0 w s a e res out) (ho : OI w (w0.heap.size + 5) mv L) (hs : s.size ≤ 140737488355320) (ha : a ≤ s.size) {x : Int} {a' : Nat} {e' : Int} (h : rd s.data.toList m (a, e) = (x, a', e')) :
    Calls Try.prog 61 #[.int .i64 m, .pointer (some ⟨w0.heap.size + 1 + 1 + 1, 0, none⟩), .pointer (some ⟨w0.heap.size, 0, none⟩), .pointer (some ⟨w0.heap.size + 1 + 1, 0, none⟩)] w fun y w' => y = .returned (.int .i64 x) ∧ Rst w0 w' s a' e' res out ∧ OI w' (w0.heap.size + 5) mv L :=
  (rdR_any s a e m w (w0.heap.size + 1 + 1 + 1) w0.heap.size (w0.heap.size + 1 + 1) hD.sn hs ha h).mono fun _ _ ⟨h1, h2, h3⟩ => ⟨h1, hD.read h2 h3, ownsRow_blocks ho fun k hk hlt => h3.block k hlt (by omega) (by omega)⟩
theorem step_rst {mv : Value} {L : List Int} {x : Int} {ops : Array Oper} {o : Oper} {b : Act} {K : Act → World → Prop} {Q : Exit → Act → World → Prop} {E : Prop} (hgd : o.guard = none) (p q : Operand)
    (hop : o.op = .call { callee := .builtin .append, args := #[p, q], argTypes := #[24, 24] })
    (hD : Rst w0 w s a e res out) (ho : OI w (w0.heap.size + 5) mv L) (hs : b.eval p = mv)
    (hx : b.eval q = .slice (some ⟨w.heap.size, 0, none⟩) 1 1) (hlen : L.length ≤ 1000000)
    (hK : ∀ A' c' w', OI w' (w0.heap.size + 5) (.slice A' (L.length + 1) c') (L ++ [x]) → Rst w0 w' s a e res out → K (b.put o.dst (.slice A' (L.length + 1) c')) w') :
    if Region.wanted o (yielded ops b.tmps) = true then Oper.wp Try.prog o b (w.alloc (.cells #[.int .i64 x] 3)) K Q else E := by
  obtain ⟨i0, hi, hz0, hz1, hz2⟩ := info_parts infoInt
  have hsz : w0.heap.size + 5 ≤ w.heap.size := by have := hD.ho.lt; omega
  refine step_appG hgd p q hop Try.underlying24 hi hz0 hz1 hz2 rfl (by decide) ho hs [.int .i64 x] 1 1 hx rfl (by intro u hu; rw [List.mem_singleton] at hu; rw [hu]; rfl) (by unfold maxLen; omega) (by omega) hsz fun v' w' h2 h3 => ?_
  have h4 : OI w' (w0.heap.size + 5) v' (L ++ [x]) := by
    unfold OI
    rw [List.length_append, List.map_append]
    exact h2
  obtain ⟨A', c', rfl⟩ := h4.form
  rw [List.length_append] at h4 ⊢
  exact hK A' c' w' h4 (hD.grew h3 (own_from ho))
theorem oi_res {mv : Value} {L : List Int} (ho : OI w (w0.heap.size + 5) mv L) (i : Nat) (u : Value) : OI (w.setCell ⟨w0.heap.size + 1, i, none⟩ u) (w0.heap.size + 5) mv L := ownsRow_setCell_below (a := ⟨w0.heap.size + 1, i, none⟩) ho (by show w0.heap.size + 1 < w0.heap.size + 5; omega) u
theorem oi_drew {mv : Value} {L : List Int} (ho : OI w (w0.heap.size + 5) mv L) : OI w.drew (w0.heap.size + 5) mv L := ho
end
end Go.Proofs.Ytahcgajipnkojaa
