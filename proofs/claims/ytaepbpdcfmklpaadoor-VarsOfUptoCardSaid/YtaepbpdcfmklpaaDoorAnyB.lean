/- Walks: strings.IndexRune of a rune that is no ASCII among three bytes that are; strings.IndexAny, ContainsAny of them in any text. -/
import Derived.Test.YtaepbpdcfmklpaaDoorAnyA
import Derived.Test.YtaepbpdcfmklpaaDoorShelf
import Derived.WalkKit
import Derived.WalkSpells
import Derived.WalkLawsBesides
import Derived.Laws.Runes
import Derived.LoopTactic
import Derived.Lib.Hide
import Derived.Deep.QuietTactic
import Derived.Deep.LoopGhost
import Derived.BigQuiet
import Derived.WalkMore
namespace Go.Proofs.YtaepbpdcfmklpaaDoor
open Go.RowKit Go.Lib
set_option linter.unusedVariables false
set_option linter.unusedSimpArgs false

def RuneNo (w : World) (e : Ending) (w' : World) : Prop := e = .returned (.int .i64 (-1)) ∧ Below w.heap.size w w'
set_option maxRecDepth 100000 in
set_option maxHeartbeats 2000000 in
theorem indexRune_err (w : World) : Calls Tryd.prog 125 #[.string ⟨#[34, 13, 10]⟩, .int .i32 65533] w (RuneNo w) := by
  go_enter Tryd.func125, Tryd.ntmps125
  go_wp2_with fail
  go_loopg [5, 6] 3 (fun g _ _ wx => ∃ i : Nat, i + g = 3 ∧ wx = w.iter ⟨#[34, 13, 10]⟩ i)
  case atStart => exact ⟨0, by omega, rfl⟩
  case round =>
    obtain ⟨i, hig, rfl⟩ := hrel
    cases gk with
    | zero =>
      obtain rfl : i = 3 := by omega
      have hnx := fun ty => run_next_end (P := Tryd.prog) w ⟨#[34, 13, 10]⟩ 3 ty (by decide)
      go_wp2_with fail
      go_ret
      exact ⟨rfl, (Below.refl _ _).alloc (Nat.le_refl _) _⟩
    | succ g =>
      have hi : i < (⟨#[34, 13, 10]⟩ : ByteArray).size := by show i < 3; omega
      have hx : ∃ x : Nat, ((⟨#[34, 13, 10]⟩ : ByteArray)[i]'hi).toNat = x ∧ x < 128 := by
        have : i = 0 ∨ i = 1 ∨ i = 2 := by omega
        rcases this with rfl | rfl | rfl
        · exact ⟨34, rfl, by decide⟩
        · exact ⟨13, rfl, by decide⟩
        · exact ⟨10, rfl, by decide⟩
      obtain ⟨x, hx, hx2⟩ := hx
      have hnx := fun ty => run_next_ascii (P := Tryd.prog) w ⟨#[34, 13, 10]⟩ i ty hi (by omega)
      rw [hx] at hnx
      have d1 : ((x : Int) == 65533) = false := beq_eq_false_iff_ne.2 (by omega)
      clear hx hi
      go_wp2_with fail
      go_roundg g
      case measure => omega
      case rel => exact ⟨i + 1, by omega, rfl⟩
set_option maxRecDepth 100000 in
set_option maxHeartbeats 2000000 in
theorem indexRune_bad (r : Int) (w : World) (h : 128 ≤ r) (h3 : ¬ r = 65533) (hv : Lib.validRune r = false) : Calls Tryd.prog 125 #[.string ⟨#[34, 13, 10]⟩, .int .i32 r] w (RuneNo w) := by
  have C := Tryd.utf8_ValidRune r w
  rw [hv] at C
  have C := Lib.hid C
  have d1 : (r == 65533) = false := beq_eq_false_iff_ne.2 h3
  have d0 : ¬ r < 128 := by omega
  clear hv h3
  go_enter Tryd.func125, Tryd.ntmps125
  go_wp2_with fail
  refine C.out.mono ?_
  rintro e w' ⟨rfl, rfl⟩
  go_wp2_with fail
  go_ret
  exact ⟨rfl, Below.refl _ _⟩
theorem indexByte_as (l : ByteArray) (h : ∀ x : UInt8, 128 ≤ x.toNat → Lib.indexByte l.data.toList x = -1) (x : UInt8) (hx : 128 ≤ x.toNat) (w : World) :
    Calls Tryd.prog 83 #[.string l, .int .u8 x.toNat] w fun e w' => e = .returned (.int .i64 (-1)) ∧ w = w' :=
  (Tryd.strings_IndexByte l (x.toNat : Int) w).mono fun _ _ hh => ⟨by rw [hh.1, show ((x.toNat : Int)).toNat.toUInt8 = x by simp, h x hx], hh.2.symm⟩
set_option maxRecDepth 100000 in
set_option maxHeartbeats 2000000 in
theorem indexRune_ok (r : Int) (q : ByteArray) (hq : q.data.toList = qcr) (w : World) (h : 128 ≤ r) (h3 : ¬ r = 65533) (hv : Lib.validRune r = true) : Calls Tryd.prog 125 #[.string q, .int .i32 r] w (RuneNo w) := by
  have C := Tryd.utf8_ValidRune r w
  rw [hv] at C
  have C := Lib.hid C
  have d1 : (r == 65533) = false := beq_eq_false_iff_ne.2 h3
  have d0 : ¬ r < 128 := by omega
  obtain ⟨e1, e2, e3⟩ := enc_high r h
  have cv : ∀ w, (convert 21 9 (.int .i32 r)).run Tryd.prog w = .ok (.string (Utf8.encode r)) w := fun w => run_convert_int_string w _ _ _ r (by rw [Tryd.underlying21]; rfl) Tryd.underlying9
  obtain ⟨E, hE⟩ : ∃ E, E = Utf8.encode r := ⟨_, rfl⟩
  rw [← hE] at e1 e2 cv
  have e4 : ∀ (k : Nat) (hk : k < E.size), 128 ≤ (E[k]'hk).toNat := by rw [hE]; exact e3
  obtain ⟨n, hn⟩ : ∃ n, n = E.size - 1 := ⟨_, rfl⟩
  have hk : n < E.size := by omega
  obtain ⟨x, hx, hx2⟩ : ∃ x : UInt8, E[n]'hk = x ∧ 128 ≤ x.toNat := ⟨_, rfl, e4 _ hk⟩
  have w1 : IntKind.i64.wrap ((E.size : Int) - 1) = (n : Int) := by rw [IntWalk.i64_in _ (by omega)]; omega
  have n3 : n = 1 ∨ n = 2 ∨ n = 3 := by omega
  have hnE : n + 1 = E.size := by omega
  clear hv h3 e3 e4 hn e1 e2 hE
  have hk3 : ∀ {m : Nat}, n = m → E.size = m + 1 := fun h => by omega
  have qs : q.size = 3 := by rw [Lib.size_eq, hq]; rfl
  have q1 : q[1]'(by omega) = 13 := by have := Lib.data_getElem? q 1 (by omega); rw [hq] at this; exact (Option.some.inj this).symm
  have q2 : q[2]'(by omega) = 10 := by have := Lib.data_getElem? q 2 (by omega); rw [hq] at this; exact (Option.some.inj this).symm
  have qa : ∀ y : UInt8, 128 ≤ y.toNat → Lib.indexByte (q.extract 2 3).data.toList y = -1 := by
    have e : (q.extract 2 3).data.toList = [10] := by rw [lst_ext, hq]; rfl
    rw [e]; exact ix_r
  have QA := Lib.hid qa
  have QB : Hid (∀ y : UInt8, 128 ≤ y.toNat → Lib.indexByte ByteArray.empty.data.toList y = -1) := Lib.hid ix_
  clear qa
  have qi : (q.size : Int) = 3 := by omega
  have s1 : IntKind.i64.wrap 2 = 2 := by decide
  have s2 : IntKind.i64.wrap 3 = 3 := by decide
  have k2 : (x.toNat : Int) ≤ 255 := by have := x.toNat_lt; omega
  have d13 : ((13 : Int) != (x.toNat : Int)) = true := bne_iff_ne.2 (by omega)
  have d10 : ((10 : Int) != (x.toNat : Int)) = true := bne_iff_ne.2 (by omega)
  clear hnE
  rcases n3 with rfl | rfl | rfl
  · have w1 : IntKind.i64.wrap ((E.size : Int) - 1) = 1 := w1
    have hsz : E.size = 2 := hk3 rfl
    have hsi : (E.size : Int) = 2 := by omega
    go_enter Tryd.func125, Tryd.ntmps125
    go_wp2_with fail
    refine C.out.mono ?_
    rintro e w' ⟨rfl, rfl⟩
    go_wp2_with fail
    go_step3
    go_wp2_with fail
    go_loopw [9, 10, 11, 12] (fun i f o j wr => i = .int .i64 1 ∧ f = .int .i64 0 ∧ wr = w') (fun i f o j _ => 0)
    case atStart => exact ⟨rfl, rfl, rfl⟩
    case round =>
      obtain ⟨rfl, rfl, rfl⟩ := hrel
      have CI := Lib.hid fun l hl w => indexByte_as l hl x hx2 w
      go_wp2_with fail
      go_step3
      go_wp2_with fail
      go_quiet (fail)
      go_wp2_with fail
      go_quiet (first | (go_at_call 83; exact (CI.out _ QA.out _).mono fun _ _ h => ⟨h.1, _, h.2.symm⟩))
      go_wp2_with fail
      rw [Exit.noGoto_ret]
      go_ret
      exact ⟨rfl, below_drewN (Below.refl _ _) _⟩
  · have w1 : IntKind.i64.wrap ((E.size : Int) - 1) = 2 := w1
    have hsz : E.size = 3 := hk3 rfl
    have hsi : (E.size : Int) = 3 := by omega
    go_enter Tryd.func125, Tryd.ntmps125
    go_wp2_with fail
    refine C.out.mono ?_
    rintro e w' ⟨rfl, rfl⟩
    go_wp2_with fail
    go_step3
    go_wp2_with fail
    go_loopw [9, 10, 11, 12] (fun i f o j wr => i = .int .i64 2 ∧ f = .int .i64 0 ∧ wr = w') (fun i f o j _ => 0)
    case atStart => exact ⟨rfl, rfl, rfl⟩
    case round =>
      obtain ⟨rfl, rfl, rfl⟩ := hrel
      have CI := Lib.hid fun l hl w => indexByte_as l hl x hx2 w
      go_wp2_with fail
      go_step3
      go_wp2_with fail
      go_quiet (fail)
      go_wp2_with fail
      go_quiet (first | (go_at_call 83; exact (CI.out _ QB.out _).mono fun _ _ h => ⟨h.1, _, h.2.symm⟩))
      go_wp2_with fail
      rw [Exit.noGoto_ret]
      go_ret
      exact ⟨rfl, below_drewN (Below.refl _ _) _⟩
  · have w1 : IntKind.i64.wrap ((E.size : Int) - 1) = 3 := w1
    have hsz : E.size = 4 := hk3 rfl
    have hsi : (E.size : Int) = 4 := by omega
    go_enter Tryd.func125, Tryd.ntmps125
    go_wp2_with fail
    refine C.out.mono ?_
    rintro e w' ⟨rfl, rfl⟩
    go_wp2_with fail
    go_step3
    go_wp2_with fail
    go_loopw [9, 10, 11, 12] (fun i f o j wr => i = .int .i64 3 ∧ f = .int .i64 0 ∧ wr = w') (fun i f o j _ => 0)
    case atStart => exact ⟨rfl, rfl, rfl⟩
    case round =>
      obtain ⟨rfl, rfl, rfl⟩ := hrel
      have CI := Lib.hid fun l hl w => indexByte_as l hl x hx2 w
      go_wp2_with fail
      rw [Exit.noGoto_ret]
      go_ret
      exact ⟨rfl, Below.refl _ _⟩
theorem indexRune_high (r : Int) (w : World) (h : 128 ≤ r) : Calls Tryd.prog 125 #[.string ⟨#[34, 13, 10]⟩, .int .i32 r] w (RuneNo w) := by
  by_cases h3 : r = 65533
  · rw [h3]; exact indexRune_err w
  · cases hv : Lib.validRune r with
    | false => exact indexRune_bad r w h h3 hv
    | true => exact indexRune_ok r _ rfl w h h3 hv
def anyI (s : ByteArray) : Int := Lib.indexAny s.data.toList qcr
set_option maxRecDepth 100000 in
set_option maxHeartbeats 2000000 in
theorem indexAny_short (s : ByteArray) (w : World) (h8 : s.size ≤ 8) :
    Calls Tryd.prog 113 #[.string s, .string ⟨#[34, 13, 10]⟩] w fun e w' => e = .returned (.int .i64 (anyI s)) ∧ Below w.heap.size w w' := by
  have h8z : decide ((8 : Int) < (s.size : Int)) = false := decide_eq_false (by omega)
  have C1 := Tryd.strings_shouldUseASCIISet (s.size : Int) w
  rw [h8z] at C1
  have C1 := Lib.hid C1
  obtain ⟨I, hI⟩ : ∃ I, I = anyI s := ⟨_, rfl⟩
  have HI := Lib.hid hI
  rw [← hI]
  have hB : Below w.heap.size w (w.iter s 0) := (Below.refl _ _).alloc (Nat.le_refl _) _
  have hIt := World.iter_heap w s 0
  clear h8 h8z hI
  go_enter Tryd.func113, Tryd.ntmps113
  go_wp2_with fail
  refine C1.out.mono ?_
  rintro e w' ⟨rfl, rfl⟩
  go_wp2_with fail
  go_loopg [9, 10] s.size (fun g _ _ wx => ∃ i : Nat, i + g = s.size ∧ Below w'.heap.size w' wx ∧ wx.heap[w'.heap.size]? = some (.stringIter s i) ∧ Hid (Lib.NoAny s.data.toList qcr i))
  case atStart => exact ⟨0, by omega, hB, hIt, Lib.hid (Lib.NoAny.zero _ _)⟩
  case round =>
    obtain ⟨i, hig, hb, hit, HN⟩ := hrel
    clear hB hIt
    have HB := Lib.hid hb
    clear hb
    cases gk with
    | zero =>
      obtain rfl : i = s.size := by omega
      have hnx := fun ty => run_next_end_at (P := Tryd.prog) wr w'.heap.size s s.size ty hit (by omega)
      clear hit
      go_wp2_with fail
      go_ret
      refine ⟨?_, HB.out⟩
      rw [HI.out, anyI, Lib.indexAny_none (by rw [← Lib.size_eq]; exact HN.out)]; rfl
    | succ g =>
      have hi : i < s.size := by omega
      obtain ⟨x, hx⟩ : ∃ x : UInt8, s[i]'hi = x := ⟨_, rfl⟩
      have hxl : s.data.toList[i]? = some x := by rw [← hx]; exact Lib.data_getElem? s i hi
      by_cases hx128 : x.toNat < 128
      · have hnx := fun ty => run_next_ascii_at (P := Tryd.prog) wr w'.heap.size s i ty hit hi (by rw [hx]; exact hx128)
        rw [hx] at hnx
        have HB1 : Hid (Below w'.heap.size w' (wr.iterAt w'.heap.size s (i + 1))) := below_iterAt HB.out (Nat.le_refl _) _ _
        have HT1 := Lib.hid (iterAt_heap wr w'.heap.size s i (i + 1) hit)
        have Hx := Lib.hid hxl
        have hback : ((x.toNat : Int)).toNat.toUInt8 = x := by simp
        have hcon := Lib.contains_iff_indexByte qcr x
        have C2 := Tryd.strings_IndexRune_ascii ⟨#[34, 13, 10]⟩ (x.toNat : Int) (wr.iterAt w'.heap.size s (i + 1)) (by omega) (by omega)
        rw [hback] at C2
        have e3 : Lib.indexByte (⟨#[34, 13, 10]⟩ : ByteArray).data.toList x = Lib.indexByte qcr x := rfl
        rw [e3] at C2
        obtain ⟨j, hj⟩ : ∃ j, j = Lib.indexByte qcr x := ⟨_, rfl⟩
        rw [← hj] at C2 hcon
        have C2 := Lib.hid C2
        clear hxl hx hit e3 hj hback
        by_cases hj0 : 0 ≤ j
        · have hin : Hid (qcr.contains x = true) := Lib.hid (by rw [hcon]; exact decide_eq_true hj0)
          clear hcon
          go_wp2_with fail
          refine C2.out.mono ?_
          rintro e w2 ⟨rfl, rfl⟩
          go_wp2_with fail
          go_ret
          exact ⟨by rw [HI.out, anyI, Lib.indexAny_hit HN.out Hx.out hin.out]; rfl, HB1.out⟩
        · have hin : Hid (qcr.contains x = false) := Lib.hid (by rw [hcon]; exact decide_eq_false hj0)
          clear hcon
          go_wp2_with fail
          refine C2.out.mono ?_
          rintro e w2 ⟨rfl, rfl⟩
          go_wp2_with fail
          go_roundg g
          case measure => omega
          case rel => exact ⟨i + 1, by omega, HB1.out, HT1.out, Lib.hid (HN.out.succ Hx.out hin.out)⟩
      · have hnx := fun ty => run_next_any_at (P := Tryd.prog) wr w'.heap.size s i ty hit hi
        obtain ⟨r, hr⟩ : ∃ r : Nat, r = (Utf8.decode s i).1 := ⟨_, rfl⟩
        obtain ⟨n, hn⟩ : ∃ n : Nat, n = (Utf8.decode s i).2 := ⟨_, rfl⟩
        have h1 := decode_high s i hi (by rw [hx]; omega)
        have h2 := dec_no hi (by rw [hx]; omega) HN.out
        rw [← hr, ← hn] at h1 hnx
        rw [← hn] at h2
        have C2 := Lib.hid (indexRune_high (r : Int) (wr.iterAt w'.heap.size s (i + n)) (by omega))
        have HB1 : Hid (Below w'.heap.size w' (wr.iterAt w'.heap.size s (i + n))) := below_iterAt HB.out (Nat.le_refl _) _ _
        have HT1 := Lib.hid (iterAt_heap wr w'.heap.size s i (i + n) hit)
        have HL : w'.heap.size < (wr.iterAt w'.heap.size s (i + n)).heap.size := (Array.getElem?_eq_some_iff.1 HT1.out).1
        have HLL := Lib.hid HL
        have H2 := Lib.hid h2
        obtain ⟨h1a, h1b⟩ := h1
        clear hxl hx hit hr hn h2 HN HL
        go_wp2_with fail
        refine C2.out.mono ?_
        rintro e w2 ⟨rfl, b2⟩
        have HB2 := Lib.hid b2
        clear b2
        go_wp2_with fail
        go_roundg (s.size - (i + n))
        case measure => omega
        case rel => exact ⟨i + n, by have := H2.out.1; omega, HB1.out.trans (HB2.out.mono HB1.out.size), (HB2.out.block _ HLL.out).trans HT1.out, Lib.hid H2.out.2⟩
theorem indexAny_any (s : ByteArray) (w : World) (hs : s.size ≤ 1048576) :
    Calls Tryd.prog 113 #[.string s, .string ⟨#[34, 13, 10]⟩] w fun e w' => e = .returned (.int .i64 (anyI s)) ∧ Below w.heap.size w w' := by
  by_cases h8 : s.size ≤ 8
  · exact indexAny_short s w h8
  · have h116 : (Tryd.prog.info? 139).map (fun i => (i.zero, i.size)) = some (some (.agg (Array.replicate 256 (.bool false))), 256) := by kernel_rfl
    refine (Tryd.strings_IndexAny_long (zero_of_info h116).1 s ⟨#[34, 13, 10]⟩ w (by show 2 ≤ 3; omega) (by omega) (by omega) (by show 3 < _; omega) ?_).mono fun e w' ⟨h1, h2⟩ => ⟨h1, ?_⟩
    · intro j b hj
      have hj3 : j < 3 := (List.getElem?_eq_some_iff.1 hj).1
      have : j = 0 ∨ j = 1 ∨ j = 2 := by omega
      rcases this with rfl | rfl | rfl <;> (cases hj; decide)
    · rw [h2]
      exact ((Below.refl _ _).alloc (Nat.le_refl _) _).alloc (by simp) _
/-- does a text hold a quote or a line's end? -/
def hasQ (s : ByteArray) : Bool := decide (0 ≤ anyI s)
theorem containsAny_any (s : ByteArray) (w : World) (hs : s.size ≤ 1048576) :
    Calls Tryd.prog 96 #[.string s, .string ⟨#[34, 13, 10]⟩] w fun e w' => e = .returned (.bool (hasQ s)) ∧ Below w.heap.size w w' := by
  have C := indexAny_any s w hs
  unfold hasQ
  obtain ⟨I, hI⟩ : ∃ I, I = anyI s := ⟨_, rfl⟩
  rw [← hI] at C ⊢
  have C := Lib.hid C
  clear hI
  go_enter Tryd.func96, Tryd.ntmps96
  go_wp2_with fail
  refine C.out.mono ?_
  rintro e w' ⟨rfl, hb⟩
  have HB := Lib.hid hb
  clear hb
  go_wp2_with fail
  go_ret
  exact ⟨rfl, HB.out⟩
/-- as three looks for one byte each -/
theorem hasQ_three (s : ByteArray) : hasQ s = (decide (0 ≤ Lib.indexByte s.data.toList 34) || decide (0 ≤ Lib.indexByte s.data.toList 13) || decide (0 ≤ Lib.indexByte s.data.toList 10)) := by
  unfold hasQ anyI
  have ha : ∀ l : List UInt8, decide (0 ≤ Lib.indexAny l qcr) = l.any fun x => qcr.contains x := by
    intro l
    induction l with
    | nil => rfl
    | cons b l ih =>
      have hg := Lib.indexAny_ge qcr l
      rw [List.any_cons, ← ih, Lib.indexAny]
      cases h : qcr.contains b with
      | true => simp
      | false =>
        rw [if_neg (by simp), Bool.false_or]
        by_cases hm : Lib.indexAny l qcr = -1
        · rw [hm]; rfl
        · rw [if_neg (by simpa using hm)]; exact decide_eq_decide.2 (by omega)
  rw [ha, ← Lib.contains_iff_indexByte, ← Lib.contains_iff_indexByte, ← Lib.contains_iff_indexByte]
  generalize s.data.toList = l
  induction l with
  | nil => rfl
  | cons b l ih =>
    rw [List.any_cons, ih]
    simp only [List.contains_cons, List.contains_nil, Bool.or_false]
    have e : ∀ x y : UInt8, (x == y) = (y == x) := fun x y => by rw [Bool.eq_iff_iff, beq_iff_eq, beq_iff_eq]; exact eq_comm
    rw [e 34 b, e 13 b, e 10 b]
    cases (b == 34) <;> cases (b == 13) <;> cases (b == 10) <;> cases (l.contains 34) <;> cases (l.contains 13) <;> cases (l.contains 10) <;> rfl
end Go.Proofs.YtaepbpdcfmklpaaDoor
