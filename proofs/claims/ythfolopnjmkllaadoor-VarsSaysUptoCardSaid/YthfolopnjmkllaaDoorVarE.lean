/- Walk: wickref.Values' closure, that adds one pair to the list in the cell it holds. -/
import Derived.Test.YthfolopnjmkllaaDoorVarD
namespace Go.Proofs.YthfolopnjmkllaaDoor
open Go.RowKit
set_option linter.unusedVariables false
set_option linter.unusedSimpArgs false

/-- a cell (block g) that holds a list of pairs, which lies behind it -/
structure Cl (w : World) (g : Nat) (v : Value) (G : List Fd) : Prop where
  cb : Blk w g 29 #[v]
  ho : OP 34 w (g + 1) v G
theorem Cl.step {w w' : World} {g : Nat} {v : Value} {G : List Fd} (h : Cl w g v G) (hb : Below w.heap.size w w') : Cl w' g v G := ⟨h.cb.below hb h.cb.lt, h.ho.kept hb⟩
set_option maxHeartbeats 1000000 in
theorem vAdd_any (g : Nat) (n x : ByteArray) (G : List Fd) (v : Value) (w : World) (h : Cl w g v G) (hG : G.length ≤ 1048577) :
    Calls Tryd.prog 22 #[.string n, .string x, .pointer (some ⟨g, 0, none⟩)] w fun e w' => e = .returned (.tuple #[]) ∧ ∃ v', Cl w' g v' (G ++ [⟨n, x⟩]) ∧ Below g w w' := by
  obtain ⟨A, c, rfl⟩ := h.ho.form
  have c0 : w.cell? ⟨g, 0, none⟩ = some (.slice A G.length c) := h.cb.cell 0
  have cf : w.frozen? ⟨g, 0, none⟩ = false := h.cb.frozen 0
  have hlt := h.cb.lt
  have H := Lib.hid h
  clear h
  go_enter Tryd.func22, Tryd.ntmps22
  go_wp2_with (at_builtin; refine wpL_appP infoArg Tryd.underlying29 rfl (.tmp 5) (.tmp 9) rfl H.out.ho rfl ⟨n, x⟩ rfl rfl (by omega) (by omega) ?_; intro v5 w5 ho5 hg5 hb5; have hk5 := hg5.blk H.out.cb (fun e => by have := own_from H.out.ho _ e; omega); have y0 : w5.cell? ⟨g, 0, none⟩ = some (.slice A G.length c) := hk5.cell 0; have yf : w5.frozen? ⟨g, 0, none⟩ = false := hk5.frozen 0; obtain ⟨A5, c5, rfl⟩ := ho5.form)
  have ho6 : OP 34 w5 (g + 1) (.slice A5 (G.length + 1) c5) (G ++ [⟨n, x⟩]) := by
    have := ho5
    rw [List.length_append, List.length_singleton] at this; exact this
  have hfin : Cl (w5.setCell ⟨g, 0, none⟩ (.slice A5 (G.length + 1) c5)) g (.slice A5 (G.length + 1) c5) (G ++ [⟨n, x⟩]) := ⟨hk5.set_ 0 _, ho6.store (p := ⟨g, 0, none⟩) (Nat.lt_succ_self g) _⟩
  have hbl : Below g w (w5.setCell ⟨g, 0, none⟩ (.slice A5 (G.length + 1) c5)) := (hb5.mono (Nat.le_succ g) : Below g w w5).setCell (p := ⟨g, 0, none⟩) (Nat.le_refl _) _
  go_end0
  exact ⟨rfl, _, hfin, hbl⟩
end Go.Proofs.YthfolopnjmkllaaDoor
