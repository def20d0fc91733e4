/- wicklaw.OneFeeds: for all readers, bounds and strings of bulk at most 1048576 one.Feed returns what the reference returns; the card. Condition: that bulk. -/
import Derived.Test.YtkcncgdgicffhaaDoorCards
import Derived.Test.YtkcncgdgicffhaaDoorTie
import Derived.Test.YtkcncgdgicffhaaDoorGb
import Derived.Test.YtkcncgdgicffhaaDoorGd
import Derived.Test.YtkcncgdgicffhaaDoorGav
import Derived.Test.YtkcncgdgicffhaaDoorGaw
import Derived.Deep.DeepHandedRow
import Derived.Lib.LaidTab
import Derived.Lib.SmallJoins
import Derived.WideShapes
namespace Go.Proofs.YtkcncgdgicffhaaDoor.lawFed
open Go.ChangeShapes Go.WideShapes Go.ChangeAt Go.RowKit Go.Joins
open Go.ChangeMaps (open_string shut_string)
set_option linter.unusedVariables false
set_option linter.unusedSimpArgs false

set_option maxRecDepth 100000 in
/-- bounds that came in -/
theorem open_bounds {Hh : Type} {enc : TypeId × Value → Hh} {W : World} {v : Value} {d : DataW Hh} {p : List MemPlace} {base : Nat}
    (hv : Value.okWide Tryd.prog W .any base 43 v) (h : DataW.Trod enc Tryd.prog W 0 (fun _ => true) true 43 v d p) :
    ∃ H B A : Int, v = .agg #[.int .i64 H, .int .i64 B, .int .i64 A] := by
  obtain ⟨v0, v1, v2, y0, y1, y2, n, rfl, rfl, _, h0, h1, h2⟩ := open_agg3 Tryd.underlying43 (by kernel_rfl) (by kernel_rfl) hv h
  obtain ⟨H, e0, _⟩ := DataW.trod_int Tryd.underlying3 h0
  obtain ⟨B, e1, _⟩ := DataW.trod_int Tryd.underlying3 h1
  obtain ⟨A, e2, _⟩ := DataW.trod_int Tryd.underlying3 h2
  simp only [List.cons.injEq, and_true] at e0 e1 e2
  subst e0; subst e1; subst e2
  exact ⟨H, B, A, rfl⟩
set_option maxRecDepth 100000 in
/-- a reader that came in -/
theorem open_reader {Hh : Type} {enc : TypeId × Value → Hh} {W : World} {v : Value} {d : DataW Hh} {p : List MemPlace} {base : Nat}
    (hv : Value.okWide Tryd.prog W .any base 50 v) (h : DataW.Trod enc Tryd.prog W 0 (fun _ => true) true 50 v d p) (hb : Rows.uptoBulk d ≤ 1048576) :
    ∃ (rest : ByteArray) (over : Int), v = .agg #[.string rest, .int .i64 over] ∧ rest.size ≤ 1048576 := by
  obtain ⟨v0, v1, y0, y1, n, rfl, rfl, _, h0, h1⟩ := open_agg2 Tryd.underlying50 (by kernel_rfl) (by kernel_rfl) hv h
  obtain ⟨s0, e0, z0, _⟩ := DataW.trod_string Tryd.underlying9 h0
  obtain ⟨o, e1, _⟩ := DataW.trod_int Tryd.underlying28 h1
  simp only [List.cons.injEq, and_true] at e0 e1
  subst e0; subst e1
  rw [z0] at hb
  simp only [Rows.uptoBulk, Rows.uptoBulkAll, lst_len] at hb
  exact ⟨s0, o, rfl, by omega⟩

/-- how long the fields are of what is read -/
theorem req_len (s : ByteArray) (H B : Int) : (reqR s H B).2.1.fs.length ≤ 30 := by
  have hz : zHd.fs.length ≤ 30 := Nat.zero_le 30
  unfold reqR
  split
  · exact hz
  · split
    · exact hz
    · dsimp only
      split
      · exact hz
      · exact rhR_len _
theorem reqsF_bd (H B : Int) (N : Nat) : ∀ (f : Nat) (s : ByteArray) (out : List (Hd × ByteArray)), (∀ p ∈ out, p.1.fs.length ≤ 30) → s.size + out.length ≤ N → (∀ p ∈ (reqsF H B f s out).1, p.1.fs.length ≤ 30) ∧ (reqsF H B f s out).1.length ≤ N
  | 0, s, out, h, hn => ⟨h, by simp only [reqsF]; omega⟩
  | f + 1, s, out, h, hn => by
    have hl := req_len s H B
    obtain ⟨E, hd, x, n, hR⟩ : ∃ E h x n, reqR s H B = (E, h, x, n) := ⟨_, _, _, _, rfl⟩
    rw [hR] at hl
    by_cases h7 : E = 7
    · subst h7; rw [reqsF_more hR]; exact ⟨h, by simp only []; omega⟩
    · by_cases h0 : E = 0
      · subst h0
        have hn2 := reqR_n hR
        rw [reqsF_go hR]
        refine reqsF_bd H B N f _ _ (fun p hp => ?_) (by rw [ByteArray.size_extract, List.length_append, List.length_singleton]; omega)
        rcases List.mem_append.1 hp with hp | hp
        · exact h p hp
        · rw [List.mem_singleton.1 hp]; exact hl
      · rw [reqsF_bad hR h7 h0]; exact ⟨h, by simp only []; omega⟩
theorem reqsR_bd (s : ByteArray) (H B : Int) : (∀ p ∈ (reqsR s H B).1, p.1.fs.length ≤ 30) ∧ (reqsR s H B).1.length ≤ s.size := reqsF_bd H B s.size _ s [] (fun p h => absurd h (by simp)) (by simp)

/-- the boxes: the reader, the bounds -/
structure Fo (w : World) (rest : ByteArray) (over H B A : Int) (wr : World) : Prop where
  rd : Blk wr w.heap.size 50 #[.string rest, .int .i64 over]
  bx : Blk wr (w.heap.size + 1) 43 #[.int .i64 H, .int .i64 B, .int .i64 A]
  be : Below w.heap.size w wr
section
variable {w wr wr' : World} {rest : ByteArray} {over H B A : Int}
theorem Fo.start : Fo w rest over H B A ((w.alloc (.cells #[.string rest, .int .i64 over] 50)).alloc (.cells #[.int .i64 H, .int .i64 B, .int .i64 A] 43)) := by
  refine ⟨(Blk.new _ _ _).alloc _, ?_, ((Below.refl _ _).alloc (Nat.le_refl _) _).alloc (by simp) _⟩
  have := Blk.new (w.alloc (.cells #[.string rest, .int .i64 over] 50)) 43 #[.int .i64 H, .int .i64 B, .int .i64 A]
  simpa using this
theorem Fo.step (h : Fo w rest over H B A wr) (hb : Below wr.heap.size wr wr') : Fo w rest over H B A wr' :=
  ⟨h.rd.below hb h.rd.lt, h.bx.below hb h.bx.lt, h.be.trans (hb.mono h.be.size)⟩
theorem Fo.facts (h : Fo w rest over H B A wr) : wr.cell? ⟨w.heap.size, 0, none⟩ = some (.string rest) ∧ wr.cell? ⟨w.heap.size, 1, none⟩ = some (.int .i64 over) ∧ wr.cell? ⟨w.heap.size + 1, 0, none⟩ = some (.int .i64 H) ∧ wr.cell? ⟨w.heap.size + 1, 1, none⟩ = some (.int .i64 B) ∧ wr.cell? ⟨w.heap.size + 1, 2, none⟩ = some (.int .i64 A) :=
  ⟨h.rd.cell 0, h.rd.cell 1, h.bx.cell 0, h.bx.cell 1, h.bx.cell 2⟩
end

set_option maxRecDepth 100000 in
set_option maxHeartbeats 8000000 in
theorem walk (rest : ByteArray) (over H B A : Int) (s : ByteArray) (w : World) (hrz : rest.size ≤ 1048576) (hs : s.size ≤ 1048576) (hm : ∃ m, w.cell? ⟨1, 0, none⟩ = some (.int .i64 m)) :
    Calls Tryd.prog 6 #[.agg #[.string rest, .int .i64 over], .agg #[.int .i64 H, .int .i64 B, .int .i64 A], .string s] w fun e w' => e = .returned (.bool true) ∧ Below w.heap.size w w' := by
  obtain ⟨m, hm⟩ := hm
  obtain ⟨W, hW⟩ : ∃ W, (w.alloc (.cells #[.string rest, .int .i64 over] 50)).alloc (.cells #[.int .i64 H, .int .i64 B, .int .i64 A] 43) = W := ⟨_, rfl⟩
  have hX : Fo w rest over H B A W := by rw [← hW]; exact Fo.start
  have CB := fun w' => bounds_any H B A w'
  have CF := fun w' (h : Fo w rest over H B A w') => feed_any rest s over H B A m w' hs hrz ((h.be.cell (p := ⟨1, 0, none⟩) (World.block_lt_of_cell? _ _ hm)).trans hm)
  unfold FeedRes at CF
  obtain ⟨r0, r1, b0, b1', b2⟩ := hX.facts
  have HX := Lib.hid hX
  have xx : (rest.toList == rest.toList) = true := by simp
  have oo : (over == over) = true := by simp
  clear hX hm
  rcases bd_cases H B A with hb | ⟨hb, hb1, hb2, hb3, hb4⟩
  · rw [hb] at CB
    have HE : Hid (feE rest s over H B A = 1) := Lib.hid (by unfold feE; rw [hb]; rfl)
    have hFR : feedR rest s over H B A = (rest, over, [], 1) := by unfold feedR; rw [HE.out, if_pos (by decide)]
    rw [hFR] at CF
    dsimp only at CF
    have CF := Lib.hid CF
    have CB := Lib.hid CB
    clear hFR HE hb
    go_enter Tryd.func6, Tryd.ntmps6
    go_wp2_with fail
    refine (CF.out _ HX.out).mono ?_
    rintro e w1 ⟨v, L, rfl, hl, hmap, b1⟩
    obtain rfl : L = [] := List.map_eq_nil_iff.1 hmap
    obtain ⟨A0, c0, rfl⟩ := hl.form
    have hX1 := (HX.out.step b1).step ((Below.refl w1.heap.size w1).alloc (Nat.le_refl _) (.cells #[.string rest, .int .i64 over] 50))
    have hY1 := Blk.new w1 50 #[.string rest, .int .i64 over]
    clear b1 hl hmap r0 r1 b0 b1' b2 HX hW
    go_upto_region 2 with fail
    obtain ⟨V, hV⟩ : ∃ V, w1.alloc (.cells #[.string rest, .int .i64 over] 50) = V := ⟨_, rfl⟩
    rw [hV] at hX1 hY1 ⊢
    clear hV
    obtain ⟨r0, r1, b0, b1', b2⟩ := hX1.facts
    have HX1 := Lib.hid hX1
    have HY1 := Lib.hid hY1
    clear hX1 hY1
    go_wp2_with fail
    refine (CB.out _).mono ?_
    rintro e w2 ⟨rfl, b3⟩
    have hX2 := HX1.out.step b3
    have hY2 := HY1.out.below b3 HY1.out.lt
    clear b3 r0 r1 b0 b1' b2
    obtain ⟨r0, r1, b0, b1', b2⟩ := hX2.facts
    have y0 := hY2.cell 0
    have y1 := hY2.cell 1
    have HX2 := Lib.hid hX2
    clear hX2 hY2
    go_wp2_with fail
    go_ret
    exact ⟨rfl, HX2.out.be⟩
  · rw [hb] at CB
    by_cases h1 : 65536 < rest.size
    · have HE : Hid (feE rest s over H B A = 2) := Lib.hid (by unfold feE; rw [if_neg (by simp [hb]), if_pos (.inl h1)])
      have d1 : decide ((65536 : Int) < (rest.size : Int)) = true := decide_eq_true (by omega)
      have d1' : decide (65536 < rest.size) = true := decide_eq_true h1
      have hFR : feedR rest s over H B A = (rest, over, [], 2) := by unfold feedR; rw [HE.out, if_pos (by decide)]
      rw [hFR] at CF
      dsimp only at CF
      have CF := Lib.hid CF
      have CB := Lib.hid CB
      clear hFR HE hb h1
      go_enter Tryd.func6, Tryd.ntmps6
      go_wp2_with fail
      refine (CF.out _ HX.out).mono ?_
      rintro e w1 ⟨v, L, rfl, hl, hmap, b1⟩
      obtain rfl : L = [] := List.map_eq_nil_iff.1 hmap
      obtain ⟨A0, c0, rfl⟩ := hl.form
      have hX1 := (HX.out.step b1).step ((Below.refl w1.heap.size w1).alloc (Nat.le_refl _) (.cells #[.string rest, .int .i64 over] 50))
      have hY1 := Blk.new w1 50 #[.string rest, .int .i64 over]
      clear b1 hl hmap r0 r1 b0 b1' b2 HX hW
      go_upto_region 2 with fail
      obtain ⟨V, hV⟩ : ∃ V, w1.alloc (.cells #[.string rest, .int .i64 over] 50) = V := ⟨_, rfl⟩
      rw [hV] at hX1 hY1 ⊢
      clear hV
      obtain ⟨r0, r1, b0, b1', b2⟩ := hX1.facts
      have HX1 := Lib.hid hX1
      have HY1 := Lib.hid hY1
      clear hX1 hY1
      go_wp2_with fail
      refine (CB.out _).mono ?_
      rintro e w2 ⟨rfl, b3⟩
      have hX2 := HX1.out.step b3
      have hY2 := HY1.out.below b3 HY1.out.lt
      clear b3 r0 r1 b0 b1' b2
      obtain ⟨r0, r1, b0, b1', b2⟩ := hX2.facts
      have y0 := hY2.cell 0
      have y1 := hY2.cell 1
      have HX2 := Lib.hid hX2
      clear hX2 hY2
      go_wp2_with fail
      go_ret
      exact ⟨rfl, HX2.out.be⟩
    · have d1 : decide ((65536 : Int) < (rest.size : Int)) = false := decide_eq_false (by omega)
      have d1' : decide (65536 < rest.size) = false := decide_eq_false h1
      by_cases h2 : 8192 < s.size
      · have HE : Hid (feE rest s over H B A = 2) := Lib.hid (by unfold feE; rw [if_neg (by simp [hb]), if_pos (.inr h2)])
        have d2 : decide ((8192 : Int) < (s.size : Int)) = true := decide_eq_true (by omega)
        have d2' : decide (8192 < s.size) = true := decide_eq_true h2
        have hFR : feedR rest s over H B A = (rest, over, [], 2) := by unfold feedR; rw [HE.out, if_pos (by decide)]
        rw [hFR] at CF
        dsimp only at CF
        have CF := Lib.hid CF
        have CB := Lib.hid CB
        clear hFR HE hb h1 h2
        go_enter Tryd.func6, Tryd.ntmps6
        go_wp2_with fail
        refine (CF.out _ HX.out).mono ?_
        rintro e w1 ⟨v, L, rfl, hl, hmap, b1⟩
        obtain rfl : L = [] := List.map_eq_nil_iff.1 hmap
        obtain ⟨A0, c0, rfl⟩ := hl.form
        have hX1 := (HX.out.step b1).step ((Below.refl w1.heap.size w1).alloc (Nat.le_refl _) (.cells #[.string rest, .int .i64 over] 50))
        have hY1 := Blk.new w1 50 #[.string rest, .int .i64 over]
        clear b1 hl hmap r0 r1 b0 b1' b2 HX hW
        go_upto_region 2 with fail
        obtain ⟨V, hV⟩ : ∃ V, w1.alloc (.cells #[.string rest, .int .i64 over] 50) = V := ⟨_, rfl⟩
        rw [hV] at hX1 hY1 ⊢
        clear hV
        obtain ⟨r0, r1, b0, b1', b2⟩ := hX1.facts
        have HX1 := Lib.hid hX1
        have HY1 := Lib.hid hY1
        clear hX1 hY1
        go_wp2_with fail
        refine (CB.out _).mono ?_
        rintro e w2 ⟨rfl, b3⟩
        have hX2 := HX1.out.step b3
        have hY2 := HY1.out.below b3 HY1.out.lt
        clear b3 r0 r1 b0 b1' b2
        obtain ⟨r0, r1, b0, b1', b2⟩ := hX2.facts
        have y0 := hY2.cell 0
        have y1 := hY2.cell 1
        have HX2 := Lib.hid hX2
        clear hX2 hY2
        go_wp2_with fail
        go_ret
        exact ⟨rfl, HX2.out.be⟩
      · have d2 : decide ((8192 : Int) < (s.size : Int)) = false := decide_eq_false (by omega)
        have d2' : decide (8192 < s.size) = false := decide_eq_false h2
        by_cases h3 : over = 0
        · subst h3
          have HE : Hid (feE rest s 0 H B A = 0) := Lib.hid (by unfold feE; rw [if_neg (by simp [hb]), if_neg (by omega), if_neg (by simp)])
          obtain ⟨T, hT⟩ : ∃ T, rest ++ s = T := ⟨_, rfl⟩
          have hTz : T.size ≤ 73728 := by rw [← hT, ByteArray.size_append]; omega
          have hv : ¬ 9223372036854775807 < rest.size + s.size := by omega
          have hFR : feedR rest s 0 H B A = ((reqsR T H B).2.1, (reqsR T H B).2.2, (reqsR T H B).1, (reqsR T H B).2.2) := by unfold feedR; rw [HE.out, if_neg (by simp), hT]
          rw [hFR] at CF
          have CQ := fun w' => requests_any T H B A w' (by omega) ⟨by omega, by omega⟩ ⟨by omega, by omega⟩
          unfold RqsRes at CQ
          have hbd := reqsR_bd T H B
          obtain ⟨Q, left, E, hQ⟩ : ∃ Q left E, reqsR T H B = (Q, left, E) := ⟨_, _, _, rfl⟩
          rw [hQ] at CF CQ hbd
          dsimp only at CF CQ hbd
          have HBD := Lib.hid hbd
          have CF := Lib.hid CF
          have CQ := Lib.hid CQ
          have CB := Lib.hid CB
          have ee : (E == E) = true := by simp
          have xl : (left.toList == left.toList) = true := by simp
          clear hFR HE hb h1 h2 hQ hbd
          go_enter Tryd.func6, Tryd.ntmps6
          go_wp2_with fail
          refine (CF.out _ HX.out).mono ?_
          rintro e w1 ⟨v, L, rfl, hl, hmap, b1⟩
          obtain ⟨A0, c0, rfl⟩ := hl.form
          have hal := (Below.refl w1.heap.size w1).alloc (Nat.le_refl _) (.cells #[.string left, .int .i64 E] 50)
          have hX1 := (HX.out.step b1).step hal
          have hL1 := hl.kept hal
          have hY1 := Blk.new w1 50 #[.string left, .int .i64 E]
          have HMap := Lib.hid hmap
          clear b1 hl hmap r0 r1 b0 b1' b2 HX hW hal
          go_upto_region 2 with fail
          obtain ⟨V, hV⟩ : ∃ V, w1.alloc (.cells #[.string left, .int .i64 E] 50) = V := ⟨_, rfl⟩
          rw [hV] at hX1 hY1 hL1 ⊢
          clear hV
          obtain ⟨r0, r1, b0, b1', b2⟩ := hX1.facts
          have HX1 := Lib.hid hX1
          have HY1 := Lib.hid hY1
          have HL1 := Lib.hid hL1
          clear hX1 hY1 hL1
          go_wp2_with fail
          refine (CB.out _).mono ?_
          rintro e w2 ⟨rfl, b3⟩
          have hX2 := HX1.out.step b3
          have hY2 := HY1.out.below b3 HY1.out.lt
          have hL2 := HL1.out.kept b3
          clear b3 r0 r1 b0 b1' b2 HX1 HY1 HL1
          obtain ⟨r0, r1, b0, b1', b2⟩ := hX2.facts
          have HX2 := Lib.hid hX2
          have HY2 := Lib.hid hY2
          have HL2 := Lib.hid hL2
          clear hX2 hY2 hL2
          go_wp2_with fail
          refine (CQ.out _).mono ?_
          rintro e w3 ⟨v, L', rfl, hl', hmap', b4⟩
          obtain ⟨A1, c1, rfl⟩ := hl'.form
          have hX3 := HX2.out.step b4
          have hY3 := HY2.out.below b4 HY2.out.lt
          have y0 := hY3.cell 0
          have y1 := hY3.cell 1
          have hmm : L.map RC.plain = Q := HMap.out
          have hll : L.length = Q.length := by rw [← hmm, List.length_map]
          have CE := Lib.hid (eqReqs_any A0 A1 c0 c1 L L' w3 _ _ (by have := HBD.out.2; omega) (HL2.out.kept b4) hl' (by rw [hmap']; exact hmm) (fun r hr => by
            have := HBD.out.1 r.plain (by rw [← hmm]; exact List.mem_map_of_mem hr)
            exact Nat.le_trans this (by decide)))
          have HX3 := Lib.hid hX3
          clear b4 hl' hmap' hmm hll hX3 hY3 r0 r1 b0 b1' b2 HX2 HY2 HL2
          go_wp2_with fail
          refine CE.out.mono ?_
          rintro e w4 ⟨rfl, b5⟩
          have HX4 := Lib.hid (HX3.out.step b5)
          clear b5
          go_wp2_with fail
          go_ret
          exact ⟨rfl, HX4.out.be⟩
        · have HE : Hid (feE rest s over H B A = 8) := Lib.hid (by unfold feE; rw [if_neg (by simp [hb]), if_neg (by omega), if_pos h3])
          have eo : (over != 0) = true := bne_iff_ne.2 h3
          have hFR : feedR rest s over H B A = (rest, over, [], 8) := by unfold feedR; rw [HE.out, if_pos (by decide)]
          rw [hFR] at CF
          dsimp only at CF
          have CF := Lib.hid CF
          have CB := Lib.hid CB
          clear hFR HE hb h1 h2 h3
          go_enter Tryd.func6, Tryd.ntmps6
          go_wp2_with fail
          refine (CF.out _ HX.out).mono ?_
          rintro e w1 ⟨v, L, rfl, hl, hmap, b1⟩
          obtain rfl : L = [] := List.map_eq_nil_iff.1 hmap
          obtain ⟨A0, c0, rfl⟩ := hl.form
          have hX1 := (HX.out.step b1).step ((Below.refl w1.heap.size w1).alloc (Nat.le_refl _) (.cells #[.string rest, .int .i64 over] 50))
          have hY1 := Blk.new w1 50 #[.string rest, .int .i64 over]
          clear b1 hl hmap r0 r1 b0 b1' b2 HX hW
          go_upto_region 2 with fail
          obtain ⟨V, hV⟩ : ∃ V, w1.alloc (.cells #[.string rest, .int .i64 over] 50) = V := ⟨_, rfl⟩
          rw [hV] at hX1 hY1 ⊢
          clear hV
          obtain ⟨r0, r1, b0, b1', b2⟩ := hX1.facts
          have HX1 := Lib.hid hX1
          have HY1 := Lib.hid hY1
          clear hX1 hY1
          go_wp2_with fail
          refine (CB.out _).mono ?_
          rintro e w2 ⟨rfl, b3⟩
          have hX2 := HX1.out.step b3
          have hY2 := HY1.out.below b3 HY1.out.lt
          clear b3 r0 r1 b0 b1' b2
          obtain ⟨r0, r1, b0, b1', b2⟩ := hX2.facts
          have y0 := hY2.cell 0
          have y1 := hY2.cell 1
          have HX2 := Lib.hid hX2
          clear hX2 hY2
          go_wp2_with fail
          go_ret
          exact ⟨rfl, HX2.out.be⟩

theorem own : ownKnob Tryd.prog.godebug = none := by kernel_rfl
set_option maxRecDepth 100000 in
theorem contract (H : Type) (enc : TypeId × Value → H) (W : World) (base : Nat) (args : Array Value) (ds gs : List (DataW H)) (before : List MemPlace)
    (hval : ∀ (j : Nat) t v, Tryd.f6.params[j]? = some t → args[j]? = some v → Value.okWide Tryd.prog W .any base t v)
    (hW : DataW.Whole enc Tryd.prog Tryd.f6.params.toList Rows.oneFeedsSpec.vars false W args.toList ds gs before) (hk : Rows.uptoSmall H (ds ++ gs) = true) (hm : ∃ m, W.cell? ⟨1, 0, none⟩ = some (.int .i64 m)) :
    Calls Tryd.prog 6 args W fun e W' => ∃ v, e = .returned v ∧ Rows.oneFeedsSpec.post enc Tryd.prog Tryd.f6 false true false false W args v W' := by
  have hW' := hW
  obtain ⟨p, q, hA0, hV, rfl, hfz, hnd⟩ := hW
  have hA : DataW.TrodAll enc Tryd.prog W 0 (fun _ => true) true Tryd.f6.params.toList args.toList ds p := hA0
  rw [Tryd.params6] at hA hval
  obtain ⟨v0, vs0, d0, ds0, p0, q0, hargs, rfl, rfl, h0, r0⟩ := trodAll_cons hA
  obtain ⟨v1, vs1, d1, ds1, p1, q1, rfl, rfl, rfl, h1, r1⟩ := trodAll_cons r0
  obtain ⟨v2, vs2, d2, ds2, p2, q2, rfl, rfl, rfl, h2, r2⟩ := trodAll_cons r1
  obtain ⟨rfl, rfl, rfl⟩ := trodAll_nil r2
  obtain rfl : args = #[v0, v1, v2] := by cases args; simp_all
  obtain ⟨rfl, rfl⟩ := trodVars_none hV
  clear hA0
  simp only [List.append_nil] at hk
  have hb : Rows.uptoBulkAll (H := H) [d0, d1, d2] ≤ 1048576 := of_decide_eq_true hk
  simp only [Rows.uptoBulkAll] at hb
  obtain ⟨rest, over, rfl, hrz⟩ := open_reader (hval 0 50 v0 rfl rfl) h0 (by omega)
  obtain ⟨Hh, Bb, Aa, rfl⟩ := open_bounds (hval 1 43 v1 rfl rfl) h1
  obtain ⟨s, rfl, rfl, rfl, w2⟩ := open_string Tryd.underlying9 (hval 2 9 v2 rfl rfl) h2
  simp only [Rows.uptoBulk, lst_len] at hb
  refine (walk rest over Hh Bb Aa s W hrz (by omega) hm).mono fun e W' ⟨he, hg⟩ => ?_
  subst he
  exact ⟨_, rfl, post_true 4 Tryd.underlying4 (by kernel_rfl) (by kernel_rfl) (by kernel_rfl) rfl rfl hW' hg⟩

/-- a table laid -/
def layObj (cs : Array Value) : Obj → Obj
  | .cells _ t frozen => .cells cs t frozen
  | o => o
def layIn (w : World) (b : Nat) (cs : Array Value) : World := { w with heap := w.heap.modify b (layObj cs) }
/-- a world for the witness: the tables as they are laid -/
noncomputable def laidWorld (os : Os) : World :=
  layIn (layIn (World.holding Tryd.prog os ⟨#[], #[], []⟩) 5 (([128, 191, 160, 191, 128, 159, 144, 191, 128, 143] ++ List.replicate 22 0).map fun n : Nat => Value.int .u8 (n : Int)).toArray) 4 (Go.Pinned.utf8FirstZ.map fun n : Nat => Value.int .u8 (n : Int)).toArray
theorem laid_met (os : Os) : laidMet Tryd.prog Rows.oneFeedsUptoRow.laid ((laidWorld os).forCall (fun _ _ => 0) ⟨#[], #[.agg #[.string ByteArray.empty, .int .i64 0], .agg #[.int .i64 0, .int .i64 0, .int .i64 0], .string ByteArray.empty], []⟩).memory :=
  laidMet_of_run' 8 (by kernel_rfl) (by kernel_rfl)
theorem reads (os : Os) {H : Type} (enc : TypeId × Value → H) : ∃ places, DataW.whole enc Tryd.prog ((laidWorld os).forCall (fun _ _ => 0) ⟨#[], #[.agg #[.string ByteArray.empty, .int .i64 0], .agg #[.int .i64 0, .int .i64 0, .int .i64 0], .string ByteArray.empty], []⟩).memory Tryd.f6.params.toList Rows.oneFeedsSpec.vars false #[Value.agg #[.string ByteArray.empty, .int .i64 0], .agg #[.int .i64 0, .int .i64 0, .int .i64 0], .string ByteArray.empty].toList 8 = some ([.agg [.lit (.string []), .lit (.int .i64 0)], .agg [.lit (.int .i64 0), .lit (.int .i64 0), .lit (.int .i64 0)], .lit (.string [])], [], places) :=
  ⟨[], by kernel_rfl⟩

set_option maxRecDepth 100000 in
theorem lifted (os : Os) (started : os.Started) (H : Type) (enc : TypeId × Value → H) (F : Stop.Interp) :
    ReturnsInHanded {} Tryd.checked os 6 .any ((Rows.OpenSpec.upto Rows.oneFeedsSpec).preRow enc Tryd.prog Tryd.f6 Rows.oneFeedsUptoRow.domain false Rows.oneFeedsUptoRow.laid) (((Rows.OpenSpec.upto Rows.oneFeedsSpec).at F).post enc Tryd.prog Tryd.f6 false true false false) := by
  obtain ⟨places, hx⟩ := reads os enc
  refine returnsInHanded_of_row (C := Tryd.checked) (s := Rows.OpenSpec.upto Rows.oneFeedsSpec) own started (by kernel_rfl) Tryd.func6
    (witness_row_at (enc := enc) (C := Tryd.checked) false (laidWorld os) #[.agg #[.string ByteArray.empty, .int .i64 0], .agg #[.int .i64 0, .int .i64 0, .int .i64 0], .string ByteArray.empty] rfl (by kernel_rfl) (by kernel_rfl) (by kernel_rfl)
      (OpenSpec.preRow_of_cond 8 hx (by kernel_rfl) (fun k hk => by cases hk; kernel_rfl) (by kernel_rfl) (laid_met os))) ?_
  intro W base args ds gs before hval hW _ hcond _ hlaid hsh _
  exact contract H enc W base args ds gs before hval hW (hcond _ rfl) (cell_of_shapedOpen_int (zero := #[.int .i64 0]) (t := 3) hsh (of_decide_eq_true (by kernel_rfl)) (by kernel_rfl) rfl (by kernel_rfl) (by kernel_rfl) Tryd.underlying3)

theorem saidUpto : Rows.OneFeedsUptoSaid :=
  OpenClaim.holds_of_cond 6 Tryd.f6 rfl rfl rfl rfl rfl rfl rfl ⟨rfl, rfl, rfl, rfl, rfl⟩ rfl rfl rfl rfl rfl (by kernel_rfl) Tryd.func6 (by kernel_rfl)
    (of_decide_eq_true (by kernel_rfl)) (by unfold Func.isWrapper; first | (rw [if_pos (by decide +kernel)]; kernel_rfl) | (rw [if_neg (by decide +kernel)]; exact ⟨rfl, rfl⟩))
    (fun os started H enc _ F => by rw [OpenClaim.pre_eq_preRow]; exact lifted os started H enc F)

/-- No parameter wants a stand-in; the program's own looks are off: what the card asks. -/
theorem plain (f : FuncId) (fn : Func) (hf : Tryd.pinned.checked.prog.funcNamed "gatewicket/wicklaw.OneFeeds" = some f) (hfn : Tryd.pinned.checked.prog.funcs[f]? = some fn) :
    false = Tryd.pinned.checked.prog.looks [] ∧ ∀ (j : Nat) t, fn.params[j]? = some t → Tryd.pinned.checked.prog.wantsStandIn t = false := by
  obtain rfl : f = 6 := Option.some.inj ((show Tryd.prog.funcNamed "gatewicket/wicklaw.OneFeeds" = some 6 by kernel_rfl).symm.trans hf) |>.symm
  obtain rfl : fn = Tryd.f6 := (Option.some.inj (Tryd.func6.symm.trans hfn)).symm
  refine ⟨by kernel_rfl, fun j t ht => ?_⟩
  rw [Tryd.params6] at ht
  have ht2 : t = 50 ∨ t = 43 ∨ t = 9 := by
    have := Array.mem_of_getElem? ht
    simp at this; (first | exact this | (rcases this with h | h | h <;> simp [h]))
  rcases ht2 with rfl | rfl | rfl
  · exact (show Tryd.prog.wantsStandIn 50 = false by kernel_rfl)
  · exact (show Tryd.prog.wantsStandIn 43 = false by kernel_rfl)
  · exact (show Tryd.prog.wantsStandIn 9 = false by kernel_rfl)

theorem card : Rows.OneFeedsUptoCardSaid :=
  Claim7.holds_tied_plain_at .later [] _ _ _ _ saidUpto (fun _ h => by cases h) (by kernel_rfl) (fun _ h => by cases h) oneFeedsUpto_row_tie rfl ⟨rfl, rfl⟩ (by kernel_rfl) rfl plain (by kernel_rfl)
#print axioms card
end Go.Proofs.YtkcncgdgicffhaaDoor.lawFed
