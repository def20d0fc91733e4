/- Walks: args.Path, args.Query, wickref.PathOf, wickref.QueryOf; what a variable names, plainly. -/
import Derived.Test.YthfolopnjmkllaaDoorVarB
import Derived.Test.YthfolopnjmkllaaDoorNetF
import Derived.Test.YthfolopnjmkllaaDoorCut
namespace Go.Proofs.YthfolopnjmkllaaDoor
open Go.RowKit
set_option linter.unusedVariables false
set_option linter.unusedSimpArgs false

theorem vPath_any (s : ByteArray) (w : World) (hs : s.size ≤ 1048576) (m : Int) (hm : w.cell? ⟨0, 0, none⟩ = some (.int .i64 m)) :
    Calls Tryd.prog 15 #[.string s] w fun e w' => e = .returned (.string (cutS s ⟨#[63]⟩).1) ∧ Below w.heap.size w w' := by
  have C := Lib.hid (cut_any s ⟨#[63]⟩ m w hs hm)
  obtain ⟨r, hr⟩ : ∃ r, r = (cutS s ⟨#[63]⟩).1 := ⟨_, rfl⟩
  rw [← hr]
  have HR := Lib.hid hr
  clear hr hm
  go_enter Tryd.func15, Tryd.ntmps15
  go_wp2_with fail
  refine C.out.mono ?_
  rintro e w1 ⟨rfl, q, hw⟩
  have HB : Hid (Below w.heap.size w w1) := Lib.hid (by rw [hw]; exact below_drewN (Below.refl _ _) q)
  clear hw
  go_wp2_with fail
  go_ret
  exact ⟨by rw [HR.out]; rfl, HB.out⟩
theorem vQuery_any (s : ByteArray) (w : World) (hs : s.size ≤ 1048576) (m : Int) (hm : w.cell? ⟨0, 0, none⟩ = some (.int .i64 m)) :
    Calls Tryd.prog 16 #[.string s] w fun e w' => e = .returned (.string (cutS s ⟨#[63]⟩).2.1) ∧ Below w.heap.size w w' := by
  have C := Lib.hid (cut_any s ⟨#[63]⟩ m w hs hm)
  obtain ⟨r, hr⟩ : ∃ r, r = (cutS s ⟨#[63]⟩).2.1 := ⟨_, rfl⟩
  rw [← hr]
  have HR := Lib.hid hr
  clear hr hm
  go_enter Tryd.func16, Tryd.ntmps16
  go_wp2_with fail
  refine C.out.mono ?_
  rintro e w1 ⟨rfl, q, hw⟩
  have HB : Hid (Below w.heap.size w w1) := Lib.hid (by rw [hw]; exact below_drewN (Below.refl _ _) q)
  clear hw
  go_wp2_with fail
  go_ret
  exact ⟨by rw [HR.out]; rfl, HB.out⟩
theorem rvPath_any (s : ByteArray) (w : World) (hs : s.size ≤ 1048576) :
    Calls Tryd.prog 23 #[.string s] w fun e w' => e = .returned (.string (cutS s ⟨#[63]⟩).1) ∧ Below w.heap.size w w' := by
  have C := Lib.hid (rsplit_any s ⟨#[63]⟩ w (by omega) (by decide))
  obtain ⟨r, hr⟩ : ∃ r, r = (cutS s ⟨#[63]⟩).1 := ⟨_, rfl⟩
  rw [← hr]
  have HR := Lib.hid hr
  clear hr
  go_enter Tryd.func23, Tryd.ntmps23
  go_wp2_with fail
  refine C.out.mono ?_
  rintro e w1 ⟨rfl, q, hw⟩
  have HB : Hid (Below w.heap.size w w1) := Lib.hid (by rw [hw]; exact below_drewN (Below.refl _ _) q)
  clear hw
  go_wp2_with fail
  go_ret
  exact ⟨by rw [HR.out]; rfl, HB.out⟩
theorem rvQuery_any (s : ByteArray) (w : World) (hs : s.size ≤ 1048576) :
    Calls Tryd.prog 24 #[.string s] w fun e w' => e = .returned (.string (cutS s ⟨#[63]⟩).2.1) ∧ Below w.heap.size w w' := by
  have C := Lib.hid (rsplit_any s ⟨#[63]⟩ w (by omega) (by decide))
  obtain ⟨r, hr⟩ : ∃ r, r = (cutS s ⟨#[63]⟩).2.1 := ⟨_, rfl⟩
  rw [← hr]
  have HR := Lib.hid hr
  clear hr
  go_enter Tryd.func24, Tryd.ntmps24
  go_wp2_with fail
  refine C.out.mono ?_
  rintro e w1 ⟨rfl, q, hw⟩
  have HB : Hid (Below w.heap.size w w1) := Lib.hid (by rw [hw]; exact below_drewN (Below.refl _ _) q)
  clear hw
  go_wp2_with fail
  go_ret
  exact ⟨by rw [HR.out]; rfl, HB.out⟩
def oneL (s : ByteArray) : List Fd := [⟨ByteArray.empty, s⟩]
def scS (n : Int) : ByteArray := str (Lib.itoa n)
/-- what a variable of a kind and a name looks at -/
def vkL (kind : Int) (name mm t : ByteArray) (fs : List Fd) (body : ByteArray) (client : Nat) (score : Int) (l ck : List Fd) : List Fd :=
  if kind = 1 then oneL mm
  else if kind = 2 then oneL t
  else if kind = 3 then oneL (cutS t ⟨#[63]⟩).1
  else if kind = 4 then oneL (cutS t ⟨#[63]⟩).2.1
  else if kind = 5 then oneL body
  else if kind = 6 then onlyL name l
  else if kind = 7 then bareL l
  else if kind = 8 then onlyL name (fieldL fs)
  else if kind = 9 then bareL (fieldL fs)
  else if kind = 10 then onlyL name ck
  else if kind = 11 then oneL (prA client)
  else if kind = 12 then oneL (scS score)
  else []
theorem itoaZ_any (n : Int) (w : World) (h0 : -9223372036854775808 ≤ n) (h1 : n ≤ 9223372036854775807) (hT : TwN w) :
    Calls Tryd.prog 21 #[.int .i64 n] w fun e w' => e = .returned (.string (scS n)) ∧ Below w.heap.size w w' :=
  (Tryd.strconv_Itoa n h0 h1 w hT).mono fun e w' ⟨h1, k, os, h2⟩ => ⟨h1, by rw [h2]; exact Lib.below_grow _ _ (Nat.le_refl _) k os⟩
end Go.Proofs.YthfolopnjmkllaaDoor
