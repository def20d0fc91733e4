/- Walks: wickref.Split, wickref.Pieces, wickref.Joined; strings.Split, strings.Join in the same words. -/
import Derived.Test.YtkcncgdgicffhaaDoorGn
import Derived.Test.YtkcncgdgicffhaaDoorGr
import Derived.Test.YtkcncgdgicffhaaDoorGs
import Derived.Test.YtkcncgdgicffhaaDoorShelf
import Derived.Lib.SplitLaws
import Derived.Lib.Join
import Derived.Test.YtkcncgdgicffhaaDoorGi
import Derived.Test.YtkcncgdgicffhaaDoorGm
namespace Go.Proofs.YtkcncgdgicffhaaDoor
open Go.RowKit
set_option linter.unusedVariables false
set_option linter.unusedSimpArgs false

/-- all pieces of s between t -/
def pcs (s t : ByteArray) : List ByteArray := Lib.splitB t 0 (Lib.countB s t) s
theorem pcs_miss {s t : ByteArray} (h : Lib.indexB s t = -1) : pcs s t = [s] := by unfold pcs; exact Lib.splitB_miss _ _ _ _ h
theorem pcs_hit {s t : ByteArray} {i : Nat} (h1 : 1 ≤ t.size) (h : Lib.indexB s t = i) : pcs s t = s.extract 0 i :: pcs (s.extract (i + t.size) s.size) t := by
  unfold pcs
  rw [Lib.countB_hit s t i h1 h, Nat.add_comm 1, Lib.splitB_hit _ _ _ _ _ h]; rfl
theorem pcs_len {s t : ByteArray} (h1 : 1 ≤ t.size) : (pcs s t).length = Lib.countB s t + 1 := Lib.splitB_all t h1 0 _ s rfl
theorem pcs_le {s t : ByteArray} (h1 : 1 ≤ t.size) : (pcs s t).length ≤ s.size + 1 := by rw [pcs_len h1]; have := Lib.countB_le t h1 s.size s (Nat.le_refl _); omega
theorem pcs_pos (s t : ByteArray) (h1 : 1 ≤ t.size) : 0 < (pcs s t).length := by rw [pcs_len h1]; omega
theorem pcs_mem (t : ByteArray) (h1 : 1 ≤ t.size) : ∀ (n : Nat) (s : ByteArray), s.size ≤ n → ∀ x ∈ pcs s t, x.size ≤ s.size
  | n, s, hn, x, hx => by
    rcases Lib.indexB_cases s t with h | ⟨i, h, hr⟩
    · rw [pcs_miss h, List.mem_singleton] at hx; rw [hx]; exact Nat.le_refl _
    · rw [pcs_hit h1 h, List.mem_cons] at hx
      have e2 : (s.extract (i + t.size) s.size).size = s.size - (i + t.size) := by rw [ByteArray.size_extract]; omega
      rcases hx with rfl | hx
      · rw [ByteArray.size_extract]; omega
      · match n with
        | 0 => omega
        | n + 1 => have := pcs_mem t h1 n _ (by omega) x hx; omega

set_option maxHeartbeats 1000000 in
theorem pieces_any (s t : ByteArray) (w : World) (hs : s.size ≤ 1048576) (ht : t.size ≤ 140737488355328) (h1 : 1 ≤ t.size) :
    Calls Tryd.prog 66 #[.string s, .string t] w fun e w' => ∃ v, e = .returned v ∧ OS w' w.heap.size v (pcs s t) ∧ Below w.heap.size w w' := by
  go_enter Tryd.func66, Tryd.ntmps66
  go_wp2_with fail
  go_loopw [0, 5] (fun x v wr => ∃ (S : ByteArray) (D : List ByteArray), x = .string S ∧ D.length + S.size ≤ s.size ∧ Hid (pcs s t = D ++ pcs S t) ∧ OS wr w.heap.size v D ∧ Below w.heap.size w wr) (fun x _ _ => match x with | .string S => S.size | _ => 0)
  case atStart => exact ⟨s, [], rfl, by simp, rfl, OS.nil _ _, Below.refl _ _⟩
  case round =>
    obtain ⟨S, D, rfl, hS, HP, ho, hb⟩ := hrel
    have HO := Lib.hid ho
    have HB := Lib.hid hb
    have hsz : w.heap.size ≤ wr.heap.size := hb.size
    clear ho hb
    rcases Lib.indexB_cases S t with h | ⟨i, h, hr⟩
    · have CS := Lib.hid (split_miss S t wr (by omega) ht h)
      have HR : Hid (pcs s t = D ++ [S]) := by show _ = _; rw [HP.out, pcs_miss h]
      clear h
      go_wp2_with fail
      refine CS.out.mono ?_
      rintro e w1 ⟨rfl, q, rfl⟩
      go_wp2_with (at_builtin; refine wpL_appS rfl (.tmp 16) (.tmp 18) rfl (HO.out.drewN q) rfl S rfl (by omega) hsz ?_; intro v' w2 ho2 hg2 hb2; have HO2 := Lib.hid ho2; have HB2 := Lib.hid hb2; clear ho2 hg2 hb2)
      go_ret
      exact ⟨_, rfl, by rw [HR.out]; exact HO2.out, (below_drewN HB.out q).trans HB2.out⟩
    · have CS := Lib.hid (split_hit S t wr (by omega) ht i h hr)
      have HR : Hid (pcs s t = (D ++ [S.extract 0 i]) ++ pcs (S.extract (i + t.size) S.size) t) := by show _ = _; rw [HP.out, pcs_hit h1 h]; simp
      have e2 : (S.extract (i + t.size) S.size).size = S.size - (i + t.size) := by rw [ByteArray.size_extract]; omega
      obtain ⟨S2, hS2⟩ : ∃ S2, S2 = S.extract (i + t.size) S.size := ⟨_, rfl⟩
      obtain ⟨P, hP⟩ : ∃ P, P = S.extract 0 i := ⟨_, rfl⟩
      rw [← hS2] at HR e2 CS
      rw [← hP] at HR CS
      clear h hS2 hP
      have hS2 : S2.size < S.size := by omega
      have hS3 : D.length + 1 + S2.size ≤ s.size := by omega
      clear e2
      go_wp2_with fail
      refine CS.out.mono ?_
      rintro e w1 ⟨rfl, q, rfl⟩
      go_wp2_with (at_builtin; refine wpL_appS rfl (.tmp 16) (.tmp 18) rfl (HO.out.drewN q) rfl P rfl (by omega) hsz ?_; intro v' w2 ho2 hg2 hb2; have HO2 := Lib.hid ho2; have HB2 := Lib.hid hb2; clear ho2 hg2 hb2)
      go_roundw
      case rel => exact ⟨S2, D ++ [P], rfl, by rw [List.length_append, List.length_singleton]; exact hS3, HR, HO2.out, (below_drewN HB.out q).trans HB2.out⟩
      case measure => exact hS2
end Go.Proofs.YtkcncgdgicffhaaDoor

/- Pairs of strings: slices of them that a call makes ([]api.Field, []api.Arg); slices.Equal of two of them. -/
namespace Go.Proofs.YtkcncgdgicffhaaDoor
open Go.RowKit
set_option linter.unusedVariables false
set_option linter.unusedSimpArgs false

theorem fdFlat_app (l m : List Fd) : fdFlat (l ++ m) = fdFlat l ++ fdFlat m := List.flatMap_append
theorem fdFlat_one (i : Fd) : fdFlat [i] = [.string i.n, .string i.v] := by simp [fdFlat]
/-- a slice of pairs, of the call's own -/
def OP (t : TypeId) (w : World) (B : Nat) (v : Value) (l : List Fd) : Prop := w.ownsRow B t 2 v l.length (fdFlat l)
section
variable {t : TypeId} {w w' : World} {B : Nat} {v v' : Value} {l : List Fd}
theorem OP.nil (t : TypeId) (w : World) (B : Nat) : OP t w B (.slice none 0 0) [] := World.ownsRow_nil _ _ _ _
theorem OP.form (h : OP t w B v l) : ∃ A c, v = .slice A l.length c := by
  rcases h.2 with ⟨rfl, h2⟩ | ⟨g, c, cur, rfl, _⟩
  · exact ⟨none, 0, by rw [h2]⟩
  · exact ⟨_, _, rfl⟩
theorem OP.formC (h : OP t w B v l) : ∃ A c, v = .slice A l.length c ∧ l.length ≤ c ∧ c ≤ 9223372036854775807 := by
  rcases h.2 with ⟨rfl, h2⟩ | ⟨g, c, cur, rfl, _, _, h3, h4, _⟩
  · exact ⟨none, 0, by rw [h2], by omega, by omega⟩
  · unfold maxLen at h4; exact ⟨_, _, rfl, h3, by omega⟩
theorem OP.drewN (h : OP t w B v l) (n : Nat) : OP t (w.drewN n) B v l := h
theorem OP.alloc (h : OP t w B v l) (o : Obj) : OP t (w.alloc o) B v l := World.ownsRow.alloc h o
theorem OP.mono {B' : Nat} (h : OP t w B v l) (hB : B' ≤ B) : OP t w B' v l := by
  refine ⟨h.1, ?_⟩
  rcases h.2 with h2 | ⟨g, cap, cur, e1, e2, e3⟩
  · exact .inl h2
  · exact .inr ⟨g, cap, cur, e1, Nat.le_trans hB e2, e3⟩
theorem OP.kept (h : OP t w B v l) (hb : Below w.heap.size w w') : OP t w' B v l := by
  refine World.ownsRow.kept (row := none) h ⟨hb.os, hb.tape, hb.output, hb.size, fun k hk _ => hb.block k hk⟩ ?_
  cases v.ownBlock <;> simp
/-- a store elsewhere, below -/
theorem OP.store (h : OP t w B v l) {p : Addr} (hp : p.block < B) (u : Value) : OP t (w.setCell p u) B v l := by
  refine ⟨h.1, ?_⟩
  rcases h.2 with h2 | ⟨g, cap, cur, e1, e2, e3, e4⟩
  · exact .inl h2
  · refine .inr ⟨g, cap, cur, e1, e2, ?_, e4⟩
    rw [Below.heap_setCell w p u g (by omega)]; exact e3
theorem OP.reads {A : Option Addr} {c : Nat} (h : OP t w B (.slice A l.length c) l) : Reads w w.heap.size 2 A l.length (fdFlat l) := Reads.of_own h
theorem OP.fdR {A : Option Addr} {c : Nat} (h : OP t w B (.slice A l.length c) l) (hz : ∀ f ∈ l, f.n.size ≤ 1048576 ∧ f.v.size ≤ 1048576) : FdR w w.heap.size A c l := by
  obtain ⟨A', c', e, h1, h2⟩ := h.formC
  injection e with e1 e2 e3
  subst e3
  exact ⟨h.reads, h1, h2, hz⟩
theorem OP.at_ {A : Option Addr} {c : Nat} (h : OP t w B (.slice A l.length c) l) {k : Nat} {i : Fd} (hk : l[k]? = some i) : ∃ g, A = some ⟨g, 0, none⟩ ∧ B ≤ g ∧ g < w.heap.size ∧ w.cell? ⟨g, k * 2, none⟩ = some (.string i.n) ∧ w.cell? ⟨g, k * 2 + 1, none⟩ = some (.string i.v) := by
  have hkl := (List.getElem?_eq_some_iff.1 hk).1
  rcases h.2 with ⟨_, h2⟩ | ⟨g, c', cur, e, hb, hh, h3, h4, h5⟩
  · omega
  · injection e with e1 e2 e3
    subst e1
    obtain ⟨ad, ea, hlt, hc⟩ := (OP.reads h).2 (by omega)
    cases ea
    refine ⟨g, rfl, hb, hlt, ?_, ?_⟩
    · have := hc (k * 2 + 0) _ (by rw [fdFlat_get hk (by omega)]; rfl)
      by_cases e0 : k * 2 = 0
      · simpa [Addr.add, e0] using this
      · simpa [Addr.add, e0] using this
    · have := hc (k * 2 + 1) _ (by rw [fdFlat_get hk (by omega)]; rfl)
      simpa [Addr.add] using this
/-- append of one pair -/
theorem wpL_appP {P : Program} {T : TypeId} {ops : Array Oper} {rest : List Oper} {o : Oper} {a : Act} {Q : Exit → Act → World → Prop} (hI : (P.info? t).map (fun i => (i.zero, i.size, i.bytes)) = some (some (.agg #[.string ByteArray.empty, .string ByteArray.empty]), 2, 32)) (hT : P.underlying T = some (.slice t)) (hgd : o.guard = none) (s x : Operand)
    (ho : o.op = .call { callee := .builtin .append, args := #[s, x], argTypes := #[T, T] })
    (h : OP t w B v l) (hs : a.eval s = v) (i : Fd) {N : Nat} (hx : a.eval x = .slice (some ⟨N, 0, none⟩) 1 1) (hN : N = w.heap.size) (hlen : l.length ≤ 1000000000) (hB : B ≤ w.heap.size)
    (hK : ∀ v' w', OP t w' B v' (l ++ [i]) → Grew w w' v v' → Below B w w' → wpList P ops Q rest (a.put o.dst v') w') :
    wpList P ops Q (o :: rest) a (w.alloc (.cells #[.string i.n, .string i.v] t)) := by
  subst hN
  obtain ⟨i0, hi0, hz0, hz1, hz2⟩ := info_parts hI
  exact wpL_appG (P := P) (Q := Q) (rest := rest) (ops := ops) hgd s x ho hT hi0 hz0 hz1 hz2 rfl (by decide) h hs [.string i.n, .string i.v] 1 1 hx rfl (by
    intro u hu
    simp only [List.mem_cons, List.not_mem_nil, or_false] at hu
    rcases hu with rfl | rfl <;> rfl) (by unfold maxLen; omega) (by omega) hB fun v' w' h2 h3 => hK v' w' (by unfold OP; rw [List.length_append, fdFlat_app, fdFlat_one]; exact h2) h3 (h3.below hB (own_from h))
end
end Go.Proofs.YtkcncgdgicffhaaDoor
