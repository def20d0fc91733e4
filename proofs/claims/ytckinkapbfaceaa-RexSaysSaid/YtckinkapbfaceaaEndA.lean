/- Walks: rex.ends, the plain kinds. -/
import Derived.Test.YtckinkapbfaceaaBoR
import Derived.Test.YtckinkapbfaceaaSp
import Derived.Test.YtckinkapbfaceaaCodB
import Derived.Lib.SlBuf
namespace Go.Proofs.Ytckinkapbfaceaa
open Go.RowKit
set_option linter.unusedVariables false
set_option linter.unusedSimpArgs false

/-- the answer of ends: a row of its own -/
def EndsRes (s : ByteArray) (q : Re) (f : Nat → Bool) (w : World) (e : Ending) (w' : World) : Prop :=
  ∃ b' cap' g, e = .returned (.slice (some ⟨b', 0, none⟩) (s.size + 1) cap') ∧ BoR w' b' (s.size + 1) g ∧ w.heap.size ≤ b' ∧ Below w.heap.size w w' ∧ EndsP s.data.toList q f g
def EndsOk (s : ByteArray) (q : Re) : Prop := ∀ (cs : List Value) (f : Nat → Bool) (b cap D : Nat) (w : World), ReC w D q cs → D ≤ w.heap.size → BoR w b (s.size + 1) f →
    Calls Try.prog 56 #[.agg cs.toArray, .string s, .slice (some ⟨b, 0, none⟩) (s.size + 1) cap] w (EndsRes s q f w)
theorem copy_bools (w : World) (b c N n1 n2 : Nat) (f : Nat → Bool) (g : Nat → Bool) (hf : BoR w b N f) (hg : BoR w c N g) (hbc : b ≠ c) (ty : TypeId) :
    ∃ w', (Builtin.copy_ #[100, 100] ty #[.slice (some ⟨c, 0, none⟩) N n1, .slice (some ⟨b, 0, none⟩) N n2]).run Try.prog w = .ok (goInt N) w' ∧ BoR w' c N f ∧ ∀ B, B ≤ c → Below B w w' := by
  have hl : ((List.range N).map fun i => Value.bool (f i)).length = N := by simp
  have hadd : ∀ j, (⟨b, 0, none⟩ : Addr).add j = ⟨b, j, none⟩ := fun j => by unfold Addr.add; split <;> simp_all
  have h := run_copy_cells (P := Try.prog) w 100 100 ty 4 c 0 N n1 ⟨b, 0, none⟩ N n2 ((List.range N).map fun i => Value.bool (f i)) Try.underlying100 (by kernel_rfl) (by rw [hl]; simp)
    (fun j v hv => by
      obtain ⟨hj, rfl⟩ := List.getElem?_eq_some_iff.1 hv
      rw [hl] at hj
      rw [hadd, hf.cell j hj]; simp)
    (fun j hj => by rw [hl] at hj; rw [Nat.zero_add, hg.cell j hj]; rfl)
    (fun j hj => by rw [hl] at hj; rw [Nat.zero_add]; exact hg.frozen j hj)
    (fun v hv => by obtain ⟨i, _, rfl⟩ := List.mem_map.1 hv; rfl)
  rw [hl] at h
  have hbel : ∀ (vs : List Value) (o : Nat) (w : World) (B : Nat), B ≤ c → Below B w (w.setCells c o vs) := by
    intro vs
    induction vs with
    | nil => intro o w B _; exact Below.refl _ _
    | cons v r ih => intro o w B hB; exact ((Below.refl _ _).setCell (p := ⟨c, o, none⟩) hB v).trans (ih _ _ B hB)
  refine ⟨_, h, ⟨Nat.lt_of_lt_of_le hg.lt (hbel _ _ _ 0 (Nat.zero_le _)).size, fun i hi => ?_, fun i hi => ?_⟩, hbel _ _ _⟩
  · have := World.cell?_setCells_in c ((List.range N).map fun i => Value.bool (f i)) 0 w (fun j hj => by rw [hl] at hj; rw [Nat.zero_add, hg.cell j hj]; rfl) i (by rw [hl]; exact hi)
    rw [Nat.zero_add] at this
    rw [this]; simp
  · rw [World.frozen?_setCells]; exact hg.frozen i hi

section
variable (s : ByteArray) (f : Nat → Bool) (b cap : Nat) (w : World) (A : Option Addr) (c : Nat)
set_option maxRecDepth 100000 in
set_option maxHeartbeats 1000000 in
theorem ends_none_any (hs : s.size ≤ 300) (hf : BoR w b (s.size + 1) f) :
    Calls Try.prog 56 #[.agg #[.int .i64 1, .int .u64 0, .int .u64 0, .int .u64 0, .int .u64 0, .slice A 0 c], .string s, .slice (some ⟨b, 0, none⟩) (s.size + 1) cap] w (EndsRes s .none f w) := by
  have hmk := make_bools' s.size (by omega)
  go_enter Try.func56, Try.ntmps56
  go_wp2_with fail
  go_ret
  refine ⟨w.heap.size + 1, s.size + 1, fun _ => false, rfl, ?_, by omega, ((Below.refl _ _).alloc (Nat.le_refl _) _).alloc (by simp) _, ends_none fun _ _ => rfl⟩
  have := BoR.made (w.alloc (.cells #[.int .i64 1, .int .u64 0, .int .u64 0, .int .u64 0, .int .u64 0, .slice A 0 c] 27)) (s.size + 1)
  simpa using this
set_option maxRecDepth 100000 in
set_option maxHeartbeats 1000000 in
theorem ends_empty_any (hs : s.size ≤ 300) (hf : BoR w b (s.size + 1) f) :
    Calls Try.prog 56 #[.agg #[.int .i64 2, .int .u64 0, .int .u64 0, .int .u64 0, .int .u64 0, .slice A 0 c], .string s, .slice (some ⟨b, 0, none⟩) (s.size + 1) cap] w (EndsRes s .empty f w) := by
  have hmk := make_bools' s.size (by omega)
  obtain ⟨W, hW⟩ : ∃ W, W = (w.alloc (.cells #[.int .i64 2, .int .u64 0, .int .u64 0, .int .u64 0, .int .u64 0, .slice A 0 c] 27)).alloc (.cells (madeCells #[.bool false] (s.size + 1)) 4) := ⟨_, rfl⟩
  have hm : BoR W (w.heap.size + 1) (s.size + 1) (fun _ => false) := by
    have := BoR.made (w.alloc (.cells #[.int .i64 2, .int .u64 0, .int .u64 0, .int .u64 0, .int .u64 0, .slice A 0 c] 27)) (s.size + 1)
    rw [hW]; simpa using this
  have hWb : Below w.heap.size w W := by rw [hW]; exact ((Below.refl _ _).alloc (Nat.le_refl _) _).alloc (by simp) _
  have hlt := hf.lt
  obtain ⟨w2, hr, hr2, hr3⟩ := copy_bools W b (w.heap.size + 1) (s.size + 1) (s.size + 1) cap f _ (hf.kept hWb) hm (by omega) 3
  have H2 := Lib.hid hr2
  have H3 := Lib.hid (hWb.trans (hr3 w.heap.size (by omega)))
  rw [hW] at hr
  clear hW hm hWb hf hr2 hr3
  go_enter Try.func56, Try.ntmps56
  go_wp2_with fail
  go_ret
  exact ⟨w.heap.size + 1, s.size + 1, f, rfl, H2.out, by omega, H3.out, ends_empty fun _ _ => rfl⟩
set_option maxRecDepth 100000 in
set_option maxHeartbeats 1000000 in
theorem ends_beg_any (hs : s.size ≤ 300) (hf : BoR w b (s.size + 1) f) :
    Calls Try.prog 56 #[.agg #[.int .i64 7, .int .u64 0, .int .u64 0, .int .u64 0, .int .u64 0, .slice A 0 c], .string s, .slice (some ⟨b, 0, none⟩) (s.size + 1) cap] w (EndsRes s .beg f w) := by
  have hmk := make_bools' s.size (by omega)
  have x0 := hf.cell 0 (by omega)
  have hlt := hf.lt
  have hm := BoR.made (w.alloc (.cells #[.int .i64 7, .int .u64 0, .int .u64 0, .int .u64 0, .int .u64 0, .slice A 0 c] 27)) (s.size + 1)
  rw [show (w.alloc (.cells #[.int .i64 7, .int .u64 0, .int .u64 0, .int .u64 0, .int .u64 0, .slice A 0 c] 27)).heap.size = w.heap.size + 1 by simp] at hm
  have y0 := hm.cell 0 (by omega)
  have z0 := hm.frozen 0 (by omega)
  have HM := Lib.hid hm
  clear hm hf
  go_enter Try.func56, Try.ntmps56
  go_wp2_with fail
  go_ret
  have h := HM.out.set_ (k := 0) (by omega) (f 0)
  rw [World.setCell_alloc_at _ _ _ _ _ (by simp)] at h
  exact ⟨w.heap.size + 1, s.size + 1, _, rfl, h, by omega, ((Below.refl _ _).alloc (Nat.le_refl _) _).alloc (by simp) _, ends_beg fun _ _ => rfl⟩
set_option maxRecDepth 100000 in
set_option maxHeartbeats 1000000 in
theorem ends_fin_any (hs : s.size ≤ 300) (hf : BoR w b (s.size + 1) f) :
    Calls Try.prog 56 #[.agg #[.int .i64 8, .int .u64 0, .int .u64 0, .int .u64 0, .int .u64 0, .slice A 0 c], .string s, .slice (some ⟨b, 0, none⟩) (s.size + 1) cap] w (EndsRes s .fin f w) := by
  have hmk := make_bools' s.size (by omega)
  have x0 := hf.cell s.size (by omega)
  have hlt := hf.lt
  have hm := BoR.made (w.alloc (.cells #[.int .i64 8, .int .u64 0, .int .u64 0, .int .u64 0, .int .u64 0, .slice A 0 c] 27)) (s.size + 1)
  rw [show (w.alloc (.cells #[.int .i64 8, .int .u64 0, .int .u64 0, .int .u64 0, .int .u64 0, .slice A 0 c] 27)).heap.size = w.heap.size + 1 by simp] at hm
  have y0 := hm.cell s.size (by omega)
  have z0 := hm.frozen s.size (by omega)
  have HM := Lib.hid hm
  clear hm hf
  go_enter Try.func56, Try.ntmps56
  go_wp2_with fail
  go_ret
  have h := HM.out.set_ (k := s.size) (by omega) (f s.size)
  rw [World.setCell_alloc_at _ _ _ _ _ (by simp)] at h
  exact ⟨w.heap.size + 1, s.size + 1, _, rfl, h, by omega, ((Below.refl _ _).alloc (Nat.le_refl _) _).alloc (by simp) _, ends_fin fun j _ => by rw [lst_len]⟩
end
end Go.Proofs.Ytckinkapbfaceaa
