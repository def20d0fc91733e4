/- The last step of a row whose answer is 'true' and whose arguments, of whatever types, read behind the call as they did. -/
import Derived.Test.YtkcncgdgicffhaaDoorGb
import Derived.Test.YtkcncgdgicffhaaDoorGc
import Derived.Test.YtkcncgdgicffhaaDoorRows
import Derived.Carry
import Derived.ChangeSlices
import Derived.Laws.World
import Derived.Test.YtkcncgdgicffhaaDoorGa
import Derived.WalkKit
import Derived.WalkSpells
import Derived.WalkLawsBesides
import Derived.Lib.Hide
import Derived.Deep.QuietTactic
import Derived.BigQuiet
namespace Go.Proofs.YtkcncgdgicffhaaDoor
open Go.ChangeShapes Go.WideShapes Go.ChangeAt Go.RowKit
set_option linter.unusedVariables false
set_option linter.unusedSimpArgs false
section
variable {H : Type} {enc : TypeId × Value → H} {P : Program}
theorem trodAll_stays (hl : laidOutB P = true) {W W' : World} (hb : Below W.heap.size W W') {sp : Nat → Bool} :
    ∀ {ts : List TypeId} {vs : List Value} {ds : List (DataW H)} {ps : List MemPlace}, (ts.all fun t => P.readableRec t && decide (t < P.types.size)) = true →
      DataW.TrodAll enc P W 0 (fun _ => true) true ts vs ds ps → (∀ x ∈ ps, x.block < W.heap.size) → (∀ x ∈ ps, sp x.block = true) → DataW.TrodAll enc P W' 0 sp true ts vs ds ps
  | [], vs, ds, ps, _, h, _, _ => by
    obtain ⟨rfl, rfl, rfl⟩ := trodAll_nil h; rfl
  | t :: ts, vs, ds, ps, ht, h, hlt, hs => by
    obtain ⟨v, vs, d, ds, p, q, rfl, rfl, rfl, h1, h2⟩ := trodAll_cons h
    simp only [List.all_cons, Bool.and_eq_true, decide_eq_true_eq] at ht
    exact ⟨p, q, WideElems.Trod_stays hl ht.1.1 ht.1.2 h1 (fun x hx => hb.same (hlt x (by simp [hx]))) (fun x hx => hs x (by simp [hx])),
      trodAll_stays hl hb ht.2 h2 (fun x hx => hlt x (by simp [hx])) (fun x hx => hs x (by simp [hx])), rfl⟩

theorem post_true {f : Func} {s : ChangeSpec} {W W' : World} {args : Array Value} {ds gs : List (DataW H)} {before : List MemPlace} (tb : TypeId) (htb : P.underlying tb = some .bool)
    (hl : laidOutB P = true) (hps : (f.params.toList.all fun t => P.readableRec t && decide (t < P.types.size)) = true) (hrt : f.resultTypes = #[tb]) (hv : s.vars = [])
    (hfn : s.fn H (ds ++ gs) = { results := [.lit (.bool true)], args := ds })
    (hW : DataW.Whole enc P f.params.toList s.vars false W args.toList ds gs before) (hb : Below W.heap.size W W') : s.post enc P f false true false false W args (.bool true) W' := by
  have hW' := hW
  obtain ⟨p, q, hA, hV, rfl, hfz, hnd⟩ := hW
  rw [hv] at hV
  obtain ⟨rfl, rfl⟩ := trodVars_none hV
  have hlt : ∀ x ∈ p, x.block < W.heap.size := fun x hx => hW'.lt x (by simp [hx])
  refine post_of_below (pa := p) (pv := []) hW' (fun _ _ _ => ?_) (fun sp hsp => ?_) (fun _ _ => ?_) rfl hb (ok_one hrt rfl (okWide_bool_mk htb _))
  · rw [hfn, hrt]; exact trodAll_cons_mk (shut_bool htb _) trodAll_mk0
  · rw [hfn]; exact trodAll_stays hl hb hps hA hlt fun x hx => hsp x (by simp [hx])
  · rw [hfn, hv]; rfl
end

end Go.Proofs.YtkcncgdgicffhaaDoor

/- Walk of wickref.in; small words on strings. -/
namespace Go.Proofs.YtkcncgdgicffhaaDoor
open Go.RowKit
set_option linter.unusedVariables false
set_option linter.unusedSimpArgs false

/-- does a byte stand in a text? -/
def hasb (n : Int) (l : List UInt8) : Bool := l.any fun b => decide (n = b.toNat)
theorem hasb_step {n : Int} {s : ByteArray} {k : Nat} (hk : k < s.size) (h : hasb n (s.data.toList.take k) = false) (h2 : ¬ n = s[k].toNat) : hasb n (s.data.toList.take (k + 1)) = false := by
  rw [take_snoc s k hk]; unfold hasb at *; simp_all
theorem hasb_hit {n : Int} {s : ByteArray} {k : Nat} (hk : k < s.size) (h2 : n = s[k].toNat) : hasb n s.data.toList = true := by
  unfold hasb; rw [List.any_eq_true]
  exact ⟨s[k], by rw [← lst_get s k hk]; exact List.getElem_mem _, by simpa using h2⟩

set_option maxHeartbeats 400000 in
theorem in_any (n : Int) (s : ByteArray) (w : World) (hs : s.size ≤ maxLen) (h0 : 0 ≤ n) (h1 : n ≤ 255) :
    Calls Tryd.prog 117 #[.int .u8 n, .string s] w fun e w' => e = .returned (.bool (hasb n s.data.toList)) ∧ w = w' := by
  unfold maxLen at hs
  go_enter Tryd.func117, Tryd.ntmps117
  go_wp2
  go_loop [5] (fun i => ∃ k : Nat, k ≤ s.size ∧ i = .int .i64 k ∧ hasb n (s.data.toList.take k) = false) (fun i => s.size - (intOf i).toNat)
  case atStart => exact ⟨0, by omega, rfl, rfl⟩
  case round =>
    obtain ⟨k, hk, rfl, hd⟩ := hrel
    have HD := Lib.hid hd; clear hd
    by_cases hlt : k < s.size
    · by_cases he : n = s[k].toNat
      · have HE := Lib.hid (hasb_hit hlt he)
        have he' := beq_iff_eq.2 he
        clear he
        go_wp2
        go_ret
        rw [HE.out]; exact ⟨rfl, rfl⟩
      · have he' := beq_eq_false_iff_ne.2 he
        go_wp2
        go_round
        case rel => exact ⟨k + 1, by omega, by go_num, hasb_step hlt HD.out he⟩
        case measure => simp [intOf]; omega
    · have h := HD.out
      rw [take_all s (by omega)] at h
      have HE := Lib.hid h
      clear h
      go_wp2
      go_ret
      rw [HE.out]; exact ⟨rfl, rfl⟩

theorem cat_str (L M : List UInt8) : str L ++ str M = str (L ++ M) := ByteArray.mk_append_mk L M
theorem cat_ext1 (L : List UInt8) (s : ByteArray) (k : Nat) (h : k < s.size) : str L ++ s.extract k (k + 1) = str (L ++ [s[k]]) := by
  apply lst_inj; rw [lst_app, ext_one s k h, lst_mk, lst_mk]
theorem ret_s {a b : ByteArray} (h : a = b) : Value.string a = .string b := by rw [h]
theorem in_res (n : Int) (s : ByteArray) (b : Bool) (hb : hasb n s.data.toList = b) (w : World) (hs : s.size ≤ maxLen) (h0 : 0 ≤ n) (h1 : n ≤ 255) :
    Calls Tryd.prog 117 #[.int .u8 n, .string s] w fun e w' => e = .returned (.bool b) ∧ w = w' := by
  subst hb; exact in_any n s w hs h0 h1

end Go.Proofs.YtkcncgdgicffhaaDoor

/- Plain: decoders that read a byte (or more) at a time. -/
namespace Go.Proofs.YtkcncgdgicffhaaDoor
open Go.RowKit
set_option linter.unusedVariables false
set_option linter.unusedSimpArgs false

/-- f says of a text that is not empty: the byte that its front stands for, and how many bytes the front has -/
def decL (f : List UInt8 → UInt8 × Nat) : List UInt8 → List UInt8
  | [] => []
  | c :: r => (f (c :: r)).1 :: decL f (r.drop ((f (c :: r)).2 - 1))
termination_by l => l.length
decreasing_by simp; omega
theorem decL_nil (f : List UInt8 → UInt8 × Nat) : decL f [] = [] := by rw [decL]
theorem decL_cons (f : List UInt8 → UInt8 × Nat) (c : UInt8) (r : List UInt8) : decL f (c :: r) = (f (c :: r)).1 :: decL f (r.drop ((f (c :: r)).2 - 1)) := by rw [decL]
/-- one step of a decoder at place k -/
theorem decL_step {f : List UInt8 → UInt8 × Nat} {s : ByteArray} {k n : Nat} {b : UInt8} (hk : k < s.size) (hn : 1 ≤ n) (h : f (s.data.toList.drop k) = (b, n)) :
    decL f (s.data.toList.drop k) = b :: decL f (s.data.toList.drop (k + n)) := by
  rw [drop_cons s k hk] at h ⊢
  rw [decL_cons, h]
  simp only [List.drop_drop]
  rw [show k + 1 + (n - 1) = k + n from by omega]
theorem decL_le (f : List UInt8 → UInt8 × Nat) (n : Nat) : ∀ l : List UInt8, l.length ≤ n → (decL f l).length ≤ l.length := by
  induction n with
  | zero => intro l h; cases l with | nil => simp [decL_nil] | cons c r => simp at h
  | succ n ih =>
    intro l h
    cases l with
    | nil => simp [decL_nil]
    | cons c r =>
      rw [decL_cons]
      have := ih (r.drop ((f (c :: r)).2 - 1)) (by simp at h ⊢; omega)
      simp at this ⊢; omega

theorem dec_keep {A X Y T : List UInt8} {b : UInt8} (h : Hid (A ++ X = T)) (h2 : Hid (X = b :: Y)) : Hid ((A ++ [b]) ++ Y = T) := by
  show (A ++ [b]) ++ Y = T
  rw [List.append_assoc, ← h.out, h2.out]; rfl
theorem dec_end {A T : List UInt8} {f : List UInt8 → UInt8 × Nat} {s : ByteArray} {k : Nat} (h : Hid (A ++ decL f (s.data.toList.drop k) = T)) (hk : s.size ≤ k) : A = T := by
  have := h.out
  rw [drop_all s hk, decL_nil, List.append_nil] at this
  exact this
/-- two digits of base 16 at the front; -1: none -/
def pairL : List UInt8 → Int
  | a :: b :: _ => if 0 ≤ hexv a.toNat ∧ 0 ≤ hexv b.toNat then 16 * hexv a.toNat + hexv b.toNat else -1
  | _ => -1
theorem pairL_bd (l : List UInt8) : -1 ≤ pairL l ∧ pairL l ≤ 255 := by
  unfold pairL
  split
  · next a b _ => have := hexv_le a.toNat; have := hexv_le b.toNat; split <;> omega
  · omega
theorem pairL_at {s : ByteArray} {k : Nat} (h : k + 1 < s.size) : pairL (s.data.toList.drop k) = if 0 ≤ hexv s[k].toNat ∧ 0 ≤ hexv s[k+1].toNat then 16 * hexv s[k].toNat + hexv s[k+1].toNat else -1 := by
  rw [drop_cons s k (by omega), drop_cons s (k+1) h]; rfl
theorem pairL_short {s : ByteArray} {k : Nat} (h : s.size ≤ k + 1) : pairL (s.data.toList.drop k) = -1 := by
  have hl : (s.data.toList.drop k).length ≤ 1 := by rw [List.length_drop, lst_len]; omega
  match hd : s.data.toList.drop k with
  | [] => rfl
  | [a] => rfl
  | a :: b :: r => rw [hd] at hl; simp at hl

/-- the front of a text in UrlDecode -/
def urlF (l : List UInt8) : UInt8 × Nat :=
  match l with
  | [] => (0, 1)
  | c :: r => if c = 37 ∧ 0 ≤ pairL r then (UInt8.ofNat (pairL r).toNat, 3) else if c = 43 then (32, 1) else (c, 1)
theorem urlF_at {s : ByteArray} {k : Nat} (h : k < s.size) : urlF (s.data.toList.drop k) =
    if s[k] = 37 ∧ 0 ≤ pairL (s.data.toList.drop (k + 1)) then (UInt8.ofNat (pairL (s.data.toList.drop (k + 1))).toNat, 3) else if s[k] = 43 then (32, 1) else (s[k], 1) := by
  rw [drop_cons s k h]; rfl
theorem toNat_of (n : Nat) (h : n ≤ 255) : (UInt8.ofNat n).toNat = n := by simp [UInt8.toNat_ofNat']; omega
theorem byte_ne {b c : UInt8} (h : ¬ b = c) : ((b.toNat : Int) == (c.toNat : Int)) = false := by
  rw [beq_eq_false_iff_ne]; intro e; apply h; apply UInt8.toNat_inj.1; omega
theorem byte_eq {b c : UInt8} (h : b = c) : ((b.toNat : Int) == (c.toNat : Int)) = true := by rw [h]; exact beq_self_eq_true _
theorem byte_neq {b c : UInt8} (h : ¬ b = c) : ((b.toNat : Int) != (c.toNat : Int)) = true := by rw [bne_iff_ne]; intro e; apply h; apply UInt8.toNat_inj.1; omega
theorem byte_neqf {b c : UInt8} (h : b = c) : ((b.toNat : Int) != (c.toNat : Int)) = false := by rw [h]; simp
end Go.Proofs.YtkcncgdgicffhaaDoor
