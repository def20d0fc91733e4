/- Two sets of bytes compared. -/
import Derived.Test.YtkdcgkdbieeijaaProg
import Derived.Test.YtkdcgkdbieeijaaPlain
import Derived.Laws.StructEq
import Derived.ChangeKeysEq
import Derived.KernelRfl
import Derived.Tactics
import Derived.WalkKit
namespace Go.Proofs.Ytkdcgkdbieeijaa
set_option linter.unusedVariables false
set_option linter.unusedSimpArgs false

theorem cells_u64 : Try.prog.cellsOf 22 = 1 := by kernel_rfl
theorem info_u64 : ∃ i, Try.prog.info? 22 = some i := Option.isSome_iff_exists.1 (by kernel_rfl)
theorem eq_u64 (w : World) (d : Nat) (a b : Int) : (Op.equalIn (d + 1) 22 (.int .u64 a) (.int .u64 b)).run Try.prog w = .ok (a == b) w := run_equalIn_int w d _ _ _ a b Try.underlying22
theorem part_u64 (w : World) (cs : Array Value) (i : Nat) (v : Value) (h : cs[i]? = some v) : (part 22 cs i).run Try.prog w = .ok v w := run_part_plain w (by kernel_rfl) h
theorem items_u64 (w : World) (d : Nat) (xs ys : Array Value) (i : Nat) (is : List Nat) (a b : Int) (hx : xs[i]? = some (.int .u64 a)) (hy : ys[i]? = some (.int .u64 b)) :
    (Op.eqItems (d + 1) 22 1 xs ys (i :: is)).run Try.prog w = if (a == b) = true then (Op.eqItems (d + 1) 22 1 xs ys is).run Try.prog w else .ok false w := by
  simp only [Op.eqItems, Sem.run_bind, Nat.mul_one, part_u64 w xs i _ hx, part_u64 w ys i _ hy, Result.andThen_ok, eq_u64]
  by_cases h : (a == b) = true
  · simp [h]
  · simp [h]
@[go_sem] theorem run_set_eq (w : World) (a b c e a' b' c' e' : Int) : (Op.equalIn 10000 24 (.agg #[.int .u64 a, .int .u64 b, .int .u64 c, .int .u64 e]) (.agg #[.int .u64 a', .int .u64 b', .int .u64 c', .int .u64 e'])).run Try.prog w =
    .ok (a == a' && (b == b' && (c == c' && e == e'))) w := by
  obtain ⟨i, hi⟩ := info_u64
  rw [show (10000 : Nat) = 9999 + 1 from rfl, run_equalIn_array w 9999 _ _ Try.underlying24 hi, cells_u64]
  rw [show List.range 4 = [0, 1, 2, 3] from rfl, show (9999 : Nat) = 9998 + 1 from rfl]
  rw [items_u64 w 9998 _ _ 0 _ a a' rfl rfl, items_u64 w 9998 _ _ 1 _ b b' rfl rfl, items_u64 w 9998 _ _ 2 _ c c' rfl rfl, items_u64 w 9998 _ _ 3 _ e e' rfl rfl]
  cases (a == a') <;> cases (b == b') <;> cases (c == c') <;> cases (e == e') <;> simp [Op.eqItems]
end Go.Proofs.Ytkdcgkdbieeijaa
