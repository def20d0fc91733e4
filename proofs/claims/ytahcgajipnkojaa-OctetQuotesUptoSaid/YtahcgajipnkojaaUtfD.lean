/- Walks: wickref.Utf8. -/
import Derived.Test.YtahcgajipnkojaaUtfC
import Derived.Test.YtahcgajipnkojaaMem
namespace Go.Proofs.Ytahcgajipnkojaa
open Go.RowKit
set_option linter.unusedVariables false
set_option linter.unusedSimpArgs false

theorem row_ge (n : Nat) : ∀ (r l : List UInt8), r.length ≤ n → rowB r l = true → r.length / 2 ≤ l.length := by
  induction n with
  | zero => intro r l h _; omega
  | succ n ih =>
    intro r l hn h
    match r, l with
    | [], _ => simp
    | [_], _ => simp
    | lo :: hi :: q, [] => simp [rowB] at h
    | lo :: hi :: q, b :: l =>
      rw [rowB_cons, Bool.and_eq_true] at h
      have := ih q l (by simp only [List.length_cons] at hn; omega) h.2
      simp only [List.length_cons]; omega
theorem rowB_at {r l : List UInt8} {i : Nat} (hr : 2 * i + 1 < r.length) (hl : i < l.length) :
    rowB (r.drop (2 * i)) (l.drop i) = ((decide ((r.getD (2 * i) 0).toNat ≤ (l.getD i 0).toNat) && decide ((l.getD i 0).toNat ≤ (r.getD (2 * i + 1) 0).toNat)) && rowB (r.drop (2 * (i + 1))) (l.drop (i + 1))) := by
  rw [List.drop_eq_getElem_cons (show 2 * i < r.length by omega), List.drop_eq_getElem_cons (show 2 * i + 1 < r.length by omega), List.drop_eq_getElem_cons hl, rowB_cons]
  simp only [List.getD, List.getElem?_eq_getElem (show 2 * i < r.length by omega), List.getElem?_eq_getElem hr, List.getElem?_eq_getElem hl, Option.getD_some]
  rfl
def rowL (k : Nat) : Nat := (rowC k).length
theorem rowL_even (k : Nat) (h : k < 9) : rowL k = 2 * (rowL k / 2) ∧ 1 ≤ rowL k / 2 ∧ rowL k ≤ 8 := by
  match k, h with
  | 0, _ | 1, _ | 2, _ | 3, _ | 4, _ | 5, _ | 6, _ | 7, _ | 8, _ => decide
def rowV (k : Nat) : Array Value := ((rowC k).map bv).toArray
def nine (w : World) : Nat → World
  | 0 => w
  | j + 1 => (nine w j).alloc (.cells (rowV j) 5)
theorem nine_size (w : World) (j : Nat) : (nine w j).heap.size = w.heap.size + j := by
  induction j with
  | zero => rfl
  | succ j ih => simp [nine, ih]; omega
theorem nine_below (w : World) (j : Nat) : Below w.heap.size w (nine w j) := by
  induction j with
  | zero => exact Below.refl _ _
  | succ j ih => exact ih.alloc (by rw [nine_size]; omega) _
theorem nine_blk (w : World) (j i : Nat) (h : j < i) : Blk (nine w i) (w.heap.size + j) 5 (rowV j) := by
  induction i with
  | zero => omega
  | succ i ih =>
    by_cases e : j = i
    · subst e
      have := Blk.new (nine w j) 5 (rowV j)
      rw [nine_size] at this
      exact this
    · exact (ih (by omega)).alloc _
structure Tab (w w1 : World) : Prop where
  below : Below w.heap.size w w1
  out : ∀ k : Nat, k < 9 → w1.cell? ⟨w.heap.size + 1 + 1 + 1 + 1 + 1 + 1 + 1 + 1 + 1, k, none⟩ = some (.slice (some ⟨w.heap.size + k, 0, none⟩) (rowL k) (rowL k))
  cell : ∀ k : Nat, k < 9 → ∀ j : Nat, j < rowL k → w1.cell? ⟨w.heap.size + k, j, none⟩ = some (.int .u8 (((rowC k).getD j 0).toNat : Int))
def tabOuts (w : World) : Array Value := #[Value.slice (some { block := w.heap.size, off := 0 }) 2 2, Value.slice (some { block := w.heap.size + 1, off := 0 }) 4 4, Value.slice (some { block := w.heap.size + 1 + 1, off := 0 }) 6 6, Value.slice (some { block := w.heap.size + 1 + 1 + 1, off := 0 }) 6 6, Value.slice (some { block := w.heap.size + 1 + 1 + 1 + 1, off := 0 }) 6 6, Value.slice (some { block := w.heap.size + 1 + 1 + 1 + 1 + 1, off := 0 }) 6 6, Value.slice (some { block := w.heap.size + 1 + 1 + 1 + 1 + 1 + 1, off := 0 }) 8 8, Value.slice (some { block := w.heap.size + 1 + 1 + 1 + 1 + 1 + 1 + 1, off := 0 }) 8 8, Value.slice (some { block := w.heap.size + 1 + 1 + 1 + 1 + 1 + 1 + 1 + 1, off := 0 }) 8 8]
theorem tab_mk (w : World) : Tab w ((((((((((w.alloc (Obj.cells #[Value.int IntKind.u8 0, Value.int IntKind.u8 127] 5)).alloc (Obj.cells #[Value.int IntKind.u8 194, Value.int IntKind.u8 223, Value.int IntKind.u8 128, Value.int IntKind.u8 191] 5)).alloc (Obj.cells #[Value.int IntKind.u8 224, Value.int IntKind.u8 224, Value.int IntKind.u8 160, Value.int IntKind.u8 191, Value.int IntKind.u8 128, Value.int IntKind.u8 191] 5)).alloc (Obj.cells #[Value.int IntKind.u8 225, Value.int IntKind.u8 236, Value.int IntKind.u8 128, Value.int IntKind.u8 191, Value.int IntKind.u8 128, Value.int IntKind.u8 191] 5)).alloc (Obj.cells #[Value.int IntKind.u8 238, Value.int IntKind.u8 239, Value.int IntKind.u8 128, Value.int IntKind.u8 191, Value.int IntKind.u8 128, Value.int IntKind.u8 191] 5)).alloc (Obj.cells #[Value.int IntKind.u8 237, Value.int IntKind.u8 237, Value.int IntKind.u8 128, Value.int IntKind.u8 159, Value.int IntKind.u8 128, Value.int IntKind.u8 191] 5)).alloc (Obj.cells #[Value.int IntKind.u8 240, Value.int IntKind.u8 240, Value.int IntKind.u8 144, Value.int IntKind.u8 191, Value.int IntKind.u8 128, Value.int IntKind.u8 191, Value.int IntKind.u8 128, Value.int IntKind.u8 191] 5)).alloc (Obj.cells #[Value.int IntKind.u8 241, Value.int IntKind.u8 243, Value.int IntKind.u8 128, Value.int IntKind.u8 191, Value.int IntKind.u8 128, Value.int IntKind.u8 191, Value.int IntKind.u8 128, Value.int IntKind.u8 191] 5)).alloc (Obj.cells #[Value.int IntKind.u8 244, Value.int IntKind.u8 244, Value.int IntKind.u8 128, Value.int IntKind.u8 143, Value.int IntKind.u8 128, Value.int IntKind.u8 191, Value.int IntKind.u8 128, Value.int IntKind.u8 191] 5)).alloc (Obj.cells #[Value.slice (some { block := w.heap.size, off := 0 }) 2 2, Value.slice (some { block := w.heap.size + 1, off := 0 }) 4 4, Value.slice (some { block := w.heap.size + 1 + 1, off := 0 }) 6 6, Value.slice (some { block := w.heap.size + 1 + 1 + 1, off := 0 }) 6 6, Value.slice (some { block := w.heap.size + 1 + 1 + 1 + 1, off := 0 }) 6 6, Value.slice (some { block := w.heap.size + 1 + 1 + 1 + 1 + 1, off := 0 }) 6 6, Value.slice (some { block := w.heap.size + 1 + 1 + 1 + 1 + 1 + 1, off := 0 }) 8 8, Value.slice (some { block := w.heap.size + 1 + 1 + 1 + 1 + 1 + 1 + 1, off := 0 }) 8 8, Value.slice (some { block := w.heap.size + 1 + 1 + 1 + 1 + 1 + 1 + 1 + 1, off := 0 }) 8 8] 54)) := by
  show Tab w ((nine w 9).alloc (Obj.cells (tabOuts w) 54))
  refine ⟨(nine_below w 9).alloc (by rw [nine_size]; omega) _, fun k hk => ?_, fun k hk j hj => ?_⟩
  · have h := Blk.new (nine w 9) 54 (tabOuts w)
    rw [nine_size] at h
    rw [h.cell]
    match k, hk with
    | 0, _ | 1, _ | 2, _ | 3, _ | 4, _ | 5, _ | 6, _ | 7, _ | 8, _ => rfl
  · have h := ((nine_blk w k 9 hk).alloc (Obj.cells (tabOuts w) 54)).cell j
    rw [h]
    unfold rowL at hj
    simp [rowV, hj, bv]
theorem tab_drew {w w1 : World} (h : Tab w w1) (q : Nat) : Tab w (w1.drewN q) := ⟨below_drewN h.below q, h.out, h.cell⟩

def InnR (s : ByteArray) (l : List UInt8) (a m k i : Nat) (o : Bool) : Prop := (o = true ∧ a + m ≤ s.size ∧ rowB (rowC k) l = rowB ((rowC k).drop (2 * i)) (l.drop i)) ∨ (o = false ∧ rowB (rowC k) l = false)

set_option maxHeartbeats 4000000 in
set_option maxRecDepth 100000 in
theorem Utf8_any (s : ByteArray) (w : World) (hs : s.size ≤ 140737488355320) :
    Calls Try.prog 33 #[.string s] w fun e w' => e = .returned (.tuple #[.bool (u8ok s.data.toList), .int .i64 (u8at s.data.toList)]) ∧ Below w.heap.size w w' := by
  have HT0 := Lib.hid (tab_mk w)
  go_enter Try.func33, Try.ntmps33
  go_wp2
  obtain ⟨w1, e1⟩ : ∃ w1, w1 = ((((((((((w.alloc (Obj.cells #[Value.int IntKind.u8 0, Value.int IntKind.u8 127] 5)).alloc (Obj.cells #[Value.int IntKind.u8 194, Value.int IntKind.u8 223, Value.int IntKind.u8 128, Value.int IntKind.u8 191] 5)).alloc (Obj.cells #[Value.int IntKind.u8 224, Value.int IntKind.u8 224, Value.int IntKind.u8 160, Value.int IntKind.u8 191, Value.int IntKind.u8 128, Value.int IntKind.u8 191] 5)).alloc (Obj.cells #[Value.int IntKind.u8 225, Value.int IntKind.u8 236, Value.int IntKind.u8 128, Value.int IntKind.u8 191, Value.int IntKind.u8 128, Value.int IntKind.u8 191] 5)).alloc (Obj.cells #[Value.int IntKind.u8 238, Value.int IntKind.u8 239, Value.int IntKind.u8 128, Value.int IntKind.u8 191, Value.int IntKind.u8 128, Value.int IntKind.u8 191] 5)).alloc (Obj.cells #[Value.int IntKind.u8 237, Value.int IntKind.u8 237, Value.int IntKind.u8 128, Value.int IntKind.u8 159, Value.int IntKind.u8 128, Value.int IntKind.u8 191] 5)).alloc (Obj.cells #[Value.int IntKind.u8 240, Value.int IntKind.u8 240, Value.int IntKind.u8 144, Value.int IntKind.u8 191, Value.int IntKind.u8 128, Value.int IntKind.u8 191, Value.int IntKind.u8 128, Value.int IntKind.u8 191] 5)).alloc (Obj.cells #[Value.int IntKind.u8 241, Value.int IntKind.u8 243, Value.int IntKind.u8 128, Value.int IntKind.u8 191, Value.int IntKind.u8 128, Value.int IntKind.u8 191, Value.int IntKind.u8 128, Value.int IntKind.u8 191] 5)).alloc (Obj.cells #[Value.int IntKind.u8 244, Value.int IntKind.u8 244, Value.int IntKind.u8 128, Value.int IntKind.u8 143, Value.int IntKind.u8 128, Value.int IntKind.u8 191, Value.int IntKind.u8 128, Value.int IntKind.u8 191] 5)).alloc (Obj.cells #[Value.slice (some { block := w.heap.size, off := 0 }) 2 2, Value.slice (some { block := w.heap.size + 1, off := 0 }) 4 4, Value.slice (some { block := w.heap.size + 1 + 1, off := 0 }) 6 6, Value.slice (some { block := w.heap.size + 1 + 1 + 1, off := 0 }) 6 6, Value.slice (some { block := w.heap.size + 1 + 1 + 1 + 1, off := 0 }) 6 6, Value.slice (some { block := w.heap.size + 1 + 1 + 1 + 1 + 1, off := 0 }) 6 6, Value.slice (some { block := w.heap.size + 1 + 1 + 1 + 1 + 1 + 1, off := 0 }) 8 8, Value.slice (some { block := w.heap.size + 1 + 1 + 1 + 1 + 1 + 1 + 1, off := 0 }) 8 8, Value.slice (some { block := w.heap.size + 1 + 1 + 1 + 1 + 1 + 1 + 1 + 1, off := 0 }) 8 8] 54)) := ⟨_, rfl⟩
  rw [← e1] at HT0 ⊢
  clear e1
  go_loopw [5] (fun i wr => ∃ k : Nat, k ≤ s.size ∧ i = .int .i64 k ∧ Hid (u8scan s.data.toList = (u8scan (s.data.toList.drop k)).map (· + k)) ∧ Hid (Tab w wr)) (fun i _ => s.size - (intOf i).toNat)
  case atStart => exact ⟨0, by omega, rfl, u8_start s, HT0⟩
  case round =>
    clear HT0
    obtain ⟨a, ha, rfl, HE, HT⟩ := hrel
    by_cases hlt : a < s.size
    · obtain ⟨l, hl⟩ : ∃ l, l = s.data.toList.drop a := ⟨_, rfl⟩
      have hll : l.length = s.size - a := by rw [hl, List.length_drop, lst_len]
      have HL := Lib.hid hl
      have HLL := Lib.hid hll
      clear hl hll
      go_wp2
      go_loopw [6, 7] (fun n k wr => ∃ k' : Nat, k' ≤ 9 ∧ k = .int .i64 k' ∧ n = .int .i64 (u8tab l k' : Int) ∧ Hid (Tab w wr)) (fun _ k _ => 9 - (intOf k).toNat)
      case atStart => exact ⟨0, by omega, rfl, rfl, HT⟩
      case round =>
        clear HT
        obtain ⟨k, hk, rfl, rfl, HT⟩ := hrel
        by_cases hkt : k < 9
        · have ho := HT.out.out k hkt
          obtain ⟨v1, v2, v3⟩ := rowL_even k hkt
          obtain ⟨m, hm⟩ : ∃ m, rowL k / 2 = m := ⟨_, rfl⟩
          rw [hm] at v1 v2
          have V1 := Lib.hid v1
          have hm' : (rowC k).length / 2 = m := hm
          have hq : (rowL k : Int) / 2 = (m : Int) := by omega
          have hm4 : m ≤ 4 := by omega
          have HM := Lib.hid hm'
          clear v1 hm v3 hm'
          have hstart : ∃ o : Bool, decide ((m : Int) ≤ (s.size : Int) - a) = o ∧ Hid (InnR s l a m k 0 o) := by
            by_cases hz : a + m ≤ s.size
            · exact ⟨true, decide_eq_true (by omega), .inl ⟨rfl, hz, rfl⟩⟩
            · refine ⟨false, decide_eq_false (by omega), .inr ⟨rfl, ?_⟩⟩
              rw [Bool.eq_false_iff]; intro h
              have := row_ge _ _ _ (Nat.le_refl _) h
              have e := V1.out; unfold rowL at e
              have := HLL.out
              omega
          obtain ⟨o, ho2, HO⟩ := hstart
          go_wp2_with fail
          rw [show decide ((k : Int) < 9) = true from decide_eq_true (by omega)]
          go_loopw [9, 10] (fun ok i wr => ∃ (i' : Nat) (o : Bool), i' ≤ m ∧ i = .int .i64 i' ∧ ok = .bool o ∧ Hid (InnR s l a m k i' o) ∧ Hid (Tab w wr)) (fun _ i _ => m - (intOf i).toNat)
          case atStart => exact ⟨0, o, by omega, rfl, rfl, HO, HT⟩
          case round =>
            clear HT HO ho ho2
            obtain ⟨i, o, hi, rfl, rfl, HO, HT⟩ := hrel
            rcases HO.out with ⟨rfl, hz, hr⟩ | ⟨rfl, hr⟩
            · by_cases hit : i < m
              · have hx : a + i < s.size := by omega
                have hxl : i < l.length := by have := HLL.out; omega
                have hrl : 2 * i + 1 < (rowC k).length := by have := V1.out; unfold rowL at this; omega
                have hstep := rowB_at hrl hxl
                have hxe : l.getD i 0 = s[a + i] := by
                  rw [HL.out, List.getD, List.getElem?_drop, lst_get? s (a + i) hx]; rfl
                rw [← hr, hxe] at hstep
                have HS := Lib.hid hstep
                have c0 := HT.out.cell k hkt (2 * i) (by have := V1.out; omega)
                have c1 := HT.out.cell k hkt (2 * i + 1) (by have := V1.out; omega)
                obtain ⟨lo, hlo⟩ : ∃ lo, (rowC k).getD (2 * i) 0 = lo := ⟨_, rfl⟩
                obtain ⟨hi', hhi⟩ : ∃ hi', (rowC k).getD (2 * i + 1) 0 = hi' := ⟨_, rfl⟩
                rw [hlo] at c0 HS
                rw [hhi] at c1 HS
                have HH := Lib.hid hr
                clear hr hstep hxe hlo hhi hrl hxl
                have i1 : (0 : Int) ≤ (a : Int) + i ∧ (a : Int) + i < s.size := by omega
                have i2 : (0 : Int) ≤ 2 * (i : Int) ∧ 2 * (i : Int) < rowL k := by have := V1.out; omega
                have i3 : (0 : Int) ≤ 2 * (i : Int) + 1 ∧ 2 * (i : Int) + 1 < rowL k := by have := V1.out; omega
                have j1 : IntKind.i64.wrap ((a : Int) + i) = (a : Int) + i := IntWalk.i64_in _ (by omega)
                have j2 : IntKind.i64.wrap (2 * (i : Int)) = 2 * (i : Int) := IntWalk.i64_in _ (by omega)
                have j3 : IntKind.i64.wrap (2 * (i : Int) + 1) = 2 * (i : Int) + 1 := IntWalk.i64_in _ (by omega)
                have j4 : ((a : Int) + i).toNat = a + i := by omega
                have j5 : (2 * (i : Int)).toNat = 2 * i := by omega
                have j6 : (2 * (i : Int) + 1).toNat = 2 * i + 1 := by omega
                by_cases p1 : (lo.toNat : Int) ≤ (s[a + i].toNat : Int)
                · by_cases p2 : (s[a + i].toNat : Int) ≤ (hi'.toNat : Int)
                  · have d1 : decide (lo.toNat ≤ s[a + i].toNat) = true := decide_eq_true (by omega)
                    have d2 : decide (s[a + i].toNat ≤ hi'.toNat) = true := decide_eq_true (by omega)
                    have HN : Hid (InnR s l a m k (i + 1) true) := .inl ⟨rfl, hz, by rw [HS.out, d1, d2]; rfl⟩
                    clear d1 d2
                    go_wp2_with fail
                    go_quiet (fail)
                    all_goals go_wp2
                    all_goals exact ⟨⟨i + 1, true, by omega, by simp, rfl, HN, tab_drew HT _⟩, by simp [intOf]; omega⟩
                  · have d2 : decide (s[a + i].toNat ≤ hi'.toNat) = false := decide_eq_false (by omega)
                    have HN : Hid (InnR s l a m k (i + 1) false) := .inr ⟨rfl, by rw [HS.out, d2]; simp⟩
                    go_wp2_with fail
                    go_quiet (fail)
                    all_goals go_wp2
                    all_goals exact ⟨⟨i + 1, false, by omega, by simp, by first | rfl | (simp; omega), HN, tab_drew HT _⟩, by simp [intOf]; omega⟩
                · have d1 : decide (lo.toNat ≤ s[a + i].toNat) = false := decide_eq_false (by omega)
                  have HN : Hid (InnR s l a m k (i + 1) false) := .inr ⟨rfl, by rw [HS.out, d1]; simp⟩
                  have q1 : decide ((lo.toNat : Int) ≤ (s[a + i].toNat : Int)) = false := decide_eq_false p1
                  go_wp2_with fail
                  go_quiet (fail)
                  all_goals go_wp2
                  all_goals exact ⟨⟨i + 1, false, by omega, by simp, by first | rfl | (simp; omega), HN, tab_drew HT _⟩, by simp [intOf]; omega⟩
              · have hie : i = m := by omega
                have ht : rowB (rowC k) l = true := by
                  rw [hr, hie, List.drop_eq_nil_of_le (by have := V1.out; unfold rowL at this; omega), rowB_nil]
                have HN : Hid (u8tab l (k + 1) = m) := by
                  show (if rowB (rowC k) l = true then (rowC k).length / 2 else u8tab l k) = m
                  rw [if_pos ht]; exact HM.out
                clear hr ht
                go_wp2_with fail
                all_goals exact ⟨⟨k + 1, by omega, by simp, by rw [HN.out], HT⟩, by simp [intOf]; omega⟩
            · have HN : Hid (u8tab l (k + 1) = u8tab l k) := by
                show (if rowB (rowC k) l = true then (rowC k).length / 2 else u8tab l k) = u8tab l k
                rw [hr]; rfl
              go_wp2_with fail
              all_goals exact ⟨⟨k + 1, by omega, by simp, by rw [HN.out], HT⟩, by simp [intOf]; omega⟩
        · have hk9 : k = 9 := by omega
          subst hk9
          obtain ⟨n, hn⟩ : ∃ n, u8tab l 9 = n := ⟨_, rfl⟩
          have hsz : u8size (s.data.toList.drop a) = n := by
            rw [← hn, ← HL.out]
            match l, HLL.out with
            | [], h => simp at h; omega
            | b :: r, _ => exact (u8tab_eq b r).symm
          have HN := Lib.hid hn
          have HSZ := Lib.hid hsz
          by_cases hz : n = 0
          · have HD := Lib.hid (u8_some (u8_hit hlt (hsz.trans hz) HE))
            have q : ((n : Int) == 0) = true := by rw [hz]; rfl
            clear hsz
            rw [hn]
            go_wp2
            go_ret2
            exact ⟨by rw [HD.out.1, HD.out.2]; rfl, HT.out.below⟩
          · have HD := Lib.hid (u8_keep hlt hsz hz HE)
            have hle : a + n ≤ s.size := by
              have := u8size_le (s.data.toList.drop a)
              rw [hsz, List.length_drop, lst_len] at this
              omega
            have q : ((n : Int) == 0) = false := by rw [beq_eq_false_iff_ne]; omega
            clear hsz
            rw [hn]
            have j1 : IntKind.i64.wrap ((a : Int) + n) = (a : Int) + n := IntWalk.i64_in _ (by omega)
            go_wp2
            go_roundw
            case rel => exact ⟨a + n, hle, by simp, HD.out, HT⟩
            case measure => simp [intOf]; omega
    · have HD := Lib.hid (u8_none (u8_fin (by omega) HE))
      go_wp2
      go_ret2
      exact ⟨by rw [HD.out.1, HD.out.2]; rfl, HT.out.below⟩
end Go.Proofs.Ytahcgajipnkojaa
