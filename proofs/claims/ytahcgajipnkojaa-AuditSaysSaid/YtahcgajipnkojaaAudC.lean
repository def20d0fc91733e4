/- Walks: four bytes of a number, both sides. -/
import Derived.Test.YtahcgajipnkojaaAudB
import Derived.Test.YtahcgajipnkojaaMB
import Derived.Test.YtahcgajipnkojaaStr
import Derived.Test.YtahcgajipnkojaaApp
namespace Go.Proofs.Ytahcgajipnkojaa
open Go.RowKit
set_option linter.unusedVariables false
set_option linter.unusedSimpArgs false

def fourL (n : Int) : List UInt8 := [UInt8.ofNat (n / 16777216 % 256).toNat, UInt8.ofNat (n / 65536 % 256).toNat, UInt8.ofNat (n / 256 % 256).toNat, UInt8.ofNat (n % 256).toNat]
theorem fourL_len (n : Int) : (fourL n).length = 4 := rfl
theorem bvx {x y : Int} (h : x = y) (h0 : 0 ≤ y) (h1 : y < 256) : Value.int .u8 x = bv (UInt8.ofNat y.toNat) := by rw [h]; exact bv_of h0 (by omega)
theorem four_vals {n a b c d : Int} (h0 : a = n / 16777216 % 256) (h1 : b = n / 65536 % 256) (h2 : c = n / 256 % 256) (h3 : d = n % 256) : [Value.int .u8 a, .int .u8 b, .int .u8 c, .int .u8 d] = (fourL n).map bv := by
  simp only [fourL, List.map_cons, List.map_nil]
  rw [bvx h0 (by omega) (by omega), bvx h1 (by omega) (by omega), bvx h2 (by omega) (by omega), bvx h3 (by omega) (by omega)]

theorem four_any (v : Value) (l : List UInt8) (n : Int) (B : Nat) (w : World) (ho : OB w B v l) (hB : B ≤ w.heap.size) (h0 : 0 ≤ n) (h1 : n < 4294967296) (hl : l.length ≤ 140737488355320) :
    Calls Try.prog 56 #[v, .int .i64 n] w fun e w' => ∃ v', e = .returned v' ∧ OB w' B v' (l ++ fourL n) ∧ Grew w w' v v' := by
  have HO := Lib.hid ho
  clear ho
  go_enter Try.func56, Try.ntmps56
  go_wp2_with (at_builtin; refine wpL_appB (w := w) rfl (.tmp 5) (.tmp 17) rfl HO.out rfl [_, _, _, _] (fourL n) (four_vals (by omega) (by omega) (by omega) (by omega)) 4 4 rfl rfl (by omega) hB ?_; intro v' w1 ho1 hg1)
  go_ret
  exact ⟨_, rfl, ho1, hg1⟩

/-- string([]byte{..}) of a block just made -/
theorem conv_new (W : World) (l : List UInt8) (vals : List Value) (hv : vals = l.map bv) (k : Nat) (hk : k = l.length) : (convert 54 9 (.slice (some ⟨W.heap.size, 0, none⟩) k k)).run Try.prog (W.alloc (.cells vals.toArray 5)) = .ok (.string (str l)) (W.alloc (.cells vals.toArray 5)) := by
  subst hk
  rw [run_convert_bytes_arg (P := Try.prog) _ 54 5 Try.underlying54 Try.underlying5 W.heap.size 0 l.length l.length (l.map fun b => (b.toNat : Int)) (by simp) (fun i hi => by
    rw [(Blk.new W 5 vals.toArray).cell]
    simp [hv, List.getD, hi, bv]) 9 Try.underlying9, str_nums]

theorem fourR_any (n : Int) (w : World) (h0 : 0 ≤ n) (h1 : n < 4294967296) :
    Calls Try.prog 55 #[.int .i64 n] w fun e w' => e = .returned (.string (str (fourL n))) ∧ Below w.heap.size w w' := by
  have hcv := conv_new w (fourL n) [.int .u8 (n / 16777216), .int .u8 (n / 65536 % 256), .int .u8 (n / 256 % 256), .int .u8 (n % 256)] (four_vals (by omega) rfl rfl rfl) 4 rfl
  go_enter Try.func55, Try.ntmps55
  go_wp2
  go_ret
  exact ⟨rfl, (Below.refl _ _).alloc (Nat.le_refl _) _⟩
end Go.Proofs.Ytahcgajipnkojaa
