/- Walk: wicklaw.NetsSays. -/
import Derived.Test.YtkcncgdgicffhaaDoorGab
import Derived.Deep.RegionHeld3
namespace Go.Proofs.YtkcncgdgicffhaaDoor
open Go.RowKit
set_option linter.unusedVariables false
set_option linter.unusedSimpArgs false

set_option maxRecDepth 100000 in
set_option maxHeartbeats 8000000 in
theorem netsWalk (s : ByteArray) (a : Nat) (b : Int) (ad : Nat) (m : Int) (w : World) (hs : s.size ≤ 1048576) (ha : a < 4294967296) (had : ad < 4294967296) (hm : w.cell? ⟨1, 0, none⟩ = some (.int .i64 m)) (hT : TwN w) :
    Calls Tryd.prog 8 #[.string s, .agg #[.int .u32 a, .int .i64 b], .int .u32 ad] w fun e w' => e = .returned (.bool true) ∧ Below w.heap.size w w' := by
  have hmb := World.block_lt_of_cell? _ _ hm
  have HM := Lib.hid fun w' (hb : Below w.heap.size w w') => (hb.cell (p := ⟨1, 0, none⟩) hmb).trans hm
  have C1 := fun w' (h : Below w.heap.size w w') => netParse_any s m w' hs (HM.out w' h)
  have C2 := fun w' => Net_any s w' hs
  have C3 := fun w' (h : Below w.heap.size w w') => netList_any s m w' hs (HM.out w' h)
  have C4 := fun w' => Nets_any s w' hs
  have CI := fun w' => netIn_any a ad b w' ha had
  have CW := fun w' => within_any a ad b w' ha had
  have CP := Lib.hid fun w' (h : Below w.heap.size w w') => netPrint_any a b w' ha (hT.below h)
  have hL := ntsR_len s
  unfold NetRes at C1 C2
  unfold NtsRes at C3 C4
  obtain ⟨R, hR⟩ : ∃ R, R = netR s := ⟨_, rfl⟩
  rw [← hR] at C1 C2
  obtain ⟨A, B, E⟩ := R
  obtain ⟨R2, hR2⟩ : ∃ R2, R2 = ntsR s := ⟨_, rfl⟩
  rw [← hR2] at C3 C4 hL
  obtain ⟨L, E2⟩ := R2
  obtain ⟨I, hI⟩ : ∃ I, I = inN a ad b := ⟨_, rfl⟩
  rw [← hI] at CI CW
  dsimp only at C1 C2 C3 C4 hL
  have C1 := Lib.hid C1
  have C2 := Lib.hid C2
  have C3 := Lib.hid C3
  have C4 := Lib.hid C4
  have CI := Lib.hid CI
  have CW := Lib.hid CW
  obtain ⟨W, hW⟩ : ∃ W, w.alloc (.cells #[.int .u32 a, .int .i64 b] 70) = W := ⟨_, rfl⟩
  have hN : N1 w a b W := by rw [← hW]; exact N1.start w a b
  have HN := Lib.hid hN
  clear hN hR hR2 hI hm hmb HM hT
  go_enter Tryd.func8, Tryd.ntmps8
  go_wp2_with fail
  refine (C1.out _ HN.out.be).mono ?_
  rintro e w1 ⟨rfl, b1⟩
  have hN1 := (HN.out.step b1).step ((Below.refl w1.heap.size w1).alloc (Nat.le_refl _) (.cells #[.int .u32 A, .int .i64 B] 70))
  have hp7 := Blk.new w1 70 #[.int .u32 A, .int .i64 B]
  clear b1 HN hW
  go_upto_region 2 with fail
  obtain ⟨V, hV⟩ : ∃ V, w1.alloc (.cells #[.int .u32 A, .int .i64 B] 70) = V := ⟨_, rfl⟩
  rw [hV] at hN1 hp7 ⊢
  clear hV
  obtain ⟨g7, hg7⟩ : ∃ g, w1.heap.size = g := ⟨_, rfl⟩
  rw [hg7] at hp7 ⊢
  have HN1 := Lib.hid hN1
  have HP1 := Lib.hid hp7
  clear hN1 hp7 hg7
  go_wp2_with fail
  refine (C2.out _).mono ?_
  rintro e w2 ⟨rfl, b2⟩
  have hal := (Below.refl w2.heap.size w2).alloc (Nat.le_refl _) (.cells #[.int .u32 A, .int .i64 B] 70)
  have hN2 := (HN1.out.step b2).step hal
  have hp2 := (HP1.out.below b2 HP1.out.lt).alloc (.cells #[.int .u32 A, .int .i64 B] 70)
  have hp9 := Blk.new w2 70 #[.int .u32 A, .int .i64 B]
  clear b2 HN1 HP1 hal
  go_upto_region 3 with fail
  obtain ⟨U, hU⟩ : ∃ U, w2.alloc (.cells #[.int .u32 A, .int .i64 B] 70) = U := ⟨_, rfl⟩
  rw [hU] at hN2 hp2 hp9 ⊢
  clear hU
  obtain ⟨g9, hg9⟩ : ∃ g, w2.heap.size = g := ⟨_, rfl⟩
  rw [hg9] at hp9 ⊢
  have HN2 := Lib.hid hN2
  have HP2 := Lib.hid hp2
  have HP9 := Lib.hid hp9
  clear hN2 hp2 hp9 hg9
  go_wp2_with fail
  refine (C3.out _ HN2.out.be).mono ?_
  rintro e w3 ⟨v3, rfl, ho3, b3⟩
  have HN3 := Lib.hid (HN2.out.step b3)
  have HO3 := Lib.hid (ho3.mono HN2.out.be.size)
  have HP3 := Lib.hid (HP2.out.below b3 HP2.out.lt)
  have HQ3 := Lib.hid (HP9.out.below b3 HP9.out.lt)
  obtain ⟨A3, c3, rfl⟩ := ho3.form
  clear b3 ho3 HN2 HP2 HP9
  go_wp2_with fail
  refine (C4.out _).mono ?_
  rintro e w4 ⟨v4, rfl, ho4, b4⟩
  have h5 : N5 w a b g7 g9 (A, B) (A, B) (.slice A3 L.length c3) v4 L w4 := by
    have hN4 := HN3.out.step b4
    exact ⟨hN4.box, hN4.be, HP3.out.below b4 HP3.out.lt, HQ3.out.below b4 HQ3.out.lt, HO3.out.kept b4, ho4.mono HN3.out.be.size⟩
  obtain ⟨A4, c4, rfl⟩ := ho4.form
  clear b4 ho4 HN3 HP3 HQ3 HO3
  have CE : Hid (∀ w', N5 w a b g7 g9 (A, B) (A, B) (.slice A3 L.length c3) (.slice A4 L.length c4) L w' → Calls Tryd.prog 37 #[.slice A3 L.length c3, .slice A4 L.length c4] w' fun e w'' => e = .returned (.bool true) ∧ Below w'.heap.size w' w'') :=
    Lib.hid fun w' h => (eqNet_any A3 A4 c3 c4 L w' _ _ (by omega) h.on h.om).mono fun _ _ ⟨h1, q, h2⟩ => ⟨h1, by rw [h2]; exact below_drewN (Below.refl _ _) q⟩
  have HS : Hid (∀ w', N5 w a b g7 g9 (A, B) (A, B) (.slice A3 L.length c3) (.slice A4 L.length c4) L w' → w'.cell? ⟨w.heap.size, 0, none⟩ = some (.int .u32 a) ∧ w'.cell? ⟨w.heap.size, 1, none⟩ = some (.int .i64 b) ∧ w'.cell? ⟨g7, 0, none⟩ = some (.int .u32 A) ∧ w'.cell? ⟨g7, 1, none⟩ = some (.int .i64 B) ∧ w'.cell? ⟨g9, 0, none⟩ = some (.int .u32 A) ∧ w'.cell? ⟨g9, 1, none⟩ = some (.int .i64 B)) := Lib.hid fun w' h => h.facts
  have ee : (E != E) = false := by simp
  have ee2 : (E2 != E2) = false := by simp
  have ii : (I != I) = false := by simp
  obtain ⟨r0, r1, r2, r3, r4, r5⟩ := h5.facts
  go_upto_region 5 with fail
  go_cut [68] from 41 to 68 (fun x wx => x = .bool false ∧ Hid (N1 w a b wx))
  case first =>
    have h5d : N5 w a b g7 g9 (A, B) (A, B) (.slice A3 L.length c3) (.slice A4 L.length c4) L w4.drew := h5.step (below_drewN (Below.refl _ _) 1)
    clear h5
    go_wp2_with fail
    go_region_held3 (fun w' => w'.cell? ⟨w.heap.size, 0, none⟩ = some (.int .u32 a) ∧ w'.cell? ⟨w.heap.size, 1, none⟩ = some (.int .i64 b) ∧ w'.cell? ⟨g7, 0, none⟩ = some (.int .u32 A) ∧ w'.cell? ⟨g7, 1, none⟩ = some (.int .i64 B) ∧ w'.cell? ⟨g9, 0, none⟩ = some (.int .u32 A) ∧ w'.cell? ⟨g9, 1, none⟩ = some (.int .i64 B)) (exact HS.out _ (by assumption))
      (first
        | (go_at_call 37; (with_reducible refine (CE.out _ (by assumption)).mono ?_); rintro e w' ⟨rfl, hb'⟩; have hs' := N5.step (by assumption) hb')
        | (go_at_call 38; (with_reducible refine (CI.out _).mono ?_); rintro e w' ⟨rfl, hb'⟩; have hs' := N5.step (by assumption) hb')
        | (go_at_call 39; (with_reducible refine (CW.out _).mono ?_); rintro e w' ⟨rfl, hb'⟩; have hs' := N5.step (by assumption) hb')
        | fail)
    all_goals go_wp2_with fail
    all_goals go_meet
    all_goals exact ⟨rfl, Lib.hid ⟨(by assumption : N5 w a b g7 g9 (A, B) (A, B) (.slice A3 L.length c3) (.slice A4 L.length c4) L _).box, (by assumption : N5 w a b g7 g9 (A, B) (A, B) (.slice A3 L.length c3) (.slice A4 L.length c4) L _).be⟩⟩
  case rest =>
    obtain ⟨rfl, HN⟩ := hcut
    clear r0 r1 r2 r3 r4 r5 h5 HS CE CI CW C1 C2 C3 C4 ee ee2 ii
    obtain ⟨q0, q1⟩ := HN.out.facts
    obtain ⟨R3, hR3⟩ : ∃ R3, R3 = prR a b := ⟨_, rfl⟩
    rw [← hR3] at CP
    have HR3 := Lib.hid hR3
    obtain ⟨T, K⟩ := R3
    dsimp only at CP
    clear hR3
    go_wp2_with fail
    refine (CP.out _ HN.out.be).mono ?_
    rintro e w5 ⟨rfl, b5⟩
    have HN5 := Lib.hid (HN.out.step b5)
    obtain ⟨q0, q1⟩ := HN5.out.facts
    clear b5 HN CP
    go_upto_region 8 with fail
    go_cut [17] from 74 to 81 (fun r wx => ∃ x : Bool, r = .bool x ∧ Hid (N1 w a b wx) ∧ Hid ((x = false ∧ prR a b = (ByteArray.empty, 1)) ∨ (x = true ∧ 0 ≤ b ∧ b ≤ 32)))
    case first =>
      by_cases h0 : 0 ≤ b
      · have d0 : decide (0 ≤ b) = true := decide_eq_true h0
        by_cases h32 : b ≤ 32
        · have d1 : decide (b ≤ 32) = true := decide_eq_true h32
          go_wp2_with fail
          go_meet
          exact ⟨true, rfl, HN5, Lib.hid (.inr ⟨rfl, h0, h32⟩)⟩
        · have d1 : decide (b ≤ 32) = false := decide_eq_false h32
          go_wp2_with fail
          go_meet
          exact ⟨false, rfl, HN5, Lib.hid (.inl ⟨rfl, pr_out (.inr (by omega))⟩)⟩
      · have d0 : decide (0 ≤ b) = false := decide_eq_false h0
        go_wp2_with fail
        go_meet
        exact ⟨false, rfl, HN5, Lib.hid (.inl ⟨rfl, pr_out (.inl (by omega))⟩)⟩
    case rest =>
      obtain ⟨x0, rfl, HNc, HXc⟩ := hcut
      clear q0 q1 HN5
      obtain ⟨q0, q1⟩ := HNc.out.facts
      go_wp2_with fail
      clear q0 q1
      go_loopw [17, 18] (fun r i wr => ∃ (k : Nat) (x : Bool), i = .int .i64 (k : Int) ∧ r = .bool x ∧ Hid (N1 w a b wr) ∧ Hid ((x = false ∧ prR a b = (ByteArray.empty, 1)) ∨ (x = true ∧ k ≤ 32 ∧ b ≤ k ∧ 0 ≤ b ∧ b ≤ 32 ∧ ∀ j : Nat, 32 - k ≤ j → (j : Int) < 32 - b → a.testBit j = false))) (fun _ i _ => 32 - (intOf i).toNat)
      case atStart => exact ⟨(max b 0).toNat, x0, by rw [show (((max b 0).toNat : Nat) : Int) = max b 0 by omega], rfl, HNc, Lib.hid (by
        rcases HXc.out with h | ⟨h1, h2, h3⟩
        · exact .inl h
        · exact .inr ⟨h1, by omega, by omega, h2, h3, fun j h4 h5 => absurd h5 (by omega)⟩)⟩
      case round =>
        clear HNc HXc
        obtain ⟨k, x, rfl, rfl, HN6, HX⟩ := hrel
        obtain ⟨w6, hw6⟩ : ∃ w6, w6 = wr := ⟨_, rfl⟩
        rw [← hw6] at HN6 ⊢
        clear hw6
        cases x with
        | false =>
          have hTK : T = ⟨#[]⟩ ∧ K = 1 := by
            rcases HX.out with ⟨_, h⟩ | ⟨h, _⟩
            · have := HR3.out.trans h; exact ⟨congrArg (·.1) this, congrArg (·.2) this⟩
            · cases h
          obtain ⟨rfl, rfl⟩ := hTK
          clear HR3 HX
          by_cases hkl : k < 32
          · have d0 : decide ((k : Int) < 32) = true := decide_eq_true (by omega)
            have d0' : decide (k < 32) = true := decide_eq_true hkl
            go_wp2_with fail
            go_ret
            exact ⟨rfl, HN6.out.be⟩
          · have d0 : decide ((k : Int) < 32) = false := decide_eq_false (by omega)
            have d0' : decide (k < 32) = false := decide_eq_false hkl
            go_wp2_with fail
            go_ret
            exact ⟨rfl, HN6.out.be⟩
        | true =>
          have hX2 : k ≤ 32 ∧ b ≤ k ∧ 0 ≤ b ∧ b ≤ 32 ∧ ∀ j : Nat, 32 - k ≤ j → (j : Int) < 32 - b → a.testBit j = false := by
            rcases HX.out with ⟨h, _⟩ | ⟨_, h⟩
            · cases h
            · exact h
          obtain ⟨k32, bk, b0, b32, hbits⟩ := hX2
          by_cases hkl : k < 32
          · have d0 : decide ((k : Int) < 32) = true := decide_eq_true (by omega)
            have d0' : decide (k < 32) = true := decide_eq_true hkl
            obtain ⟨q0, q1⟩ := HN6.out.facts
            have j1 : IntKind.i64.wrap ((31 : Int) - (k : Int)) = (31 : Int) - (k : Int) := IntWalk.i64_in _ (by omega)
            have i1 : (0 : Int) ≤ (31 : Int) - (k : Int) := by omega
            obtain ⟨p, hp⟩ : ∃ p : Nat, p = 31 - k := ⟨_, rfl⟩
            have j2 : ((31 : Int) - (k : Int)).toNat = p := by omega
            have hpk := Lib.hid hp
            clear hp
            have hps : p < 32 := by have := hpk.out; omega
            obtain ⟨y, hy⟩ : ∃ y, a.testBit p = y := ⟨_, rfl⟩
            have ey := and_bit ha hy
            cases y with
            | true =>
              have HX2 : Hid (((false : Bool) = false ∧ prR a b = (ByteArray.empty, 1)) ∨ ((false : Bool) = true ∧ k + 1 ≤ 32 ∧ b ≤ (k + 1 : Nat) ∧ 0 ≤ b ∧ b ≤ 32 ∧ ∀ j : Nat, 32 - (k + 1) ≤ j → (j : Int) < 32 - b → a.testBit j = false)) := Lib.hid (.inl ⟨rfl, pr_bad (low_one b0 b32 (by have := hpk.out; omega) hy)⟩)
              clear hy hbits HX
              go_wp2_with fail
              go_roundw
              case rel => exact ⟨k + 1, false, by go_num, rfl, HN6, HX2⟩
              case measure => simp [intOf]; omega
            | false =>
              have HX2 : Hid (((true : Bool) = false ∧ prR a b = (ByteArray.empty, 1)) ∨ ((true : Bool) = true ∧ k + 1 ≤ 32 ∧ b ≤ (k + 1 : Nat) ∧ 0 ≤ b ∧ b ≤ 32 ∧ ∀ j : Nat, 32 - (k + 1) ≤ j → (j : Int) < 32 - b → a.testBit j = false)) := Lib.hid (.inr ⟨rfl, by omega, by omega, b0, b32, fun j h1 h2 => by
                by_cases e : j = p
                · rw [e, hy]
                · exact hbits j (by have := hpk.out; omega) h2⟩)
              clear hy hbits HX
              go_wp2_with fail
              go_roundw
              case rel => exact ⟨k + 1, true, by go_num, rfl, HN6, HX2⟩
              case measure => simp [intOf]; omega
          · obtain rfl : k = 32 := by omega
            have hmod := low_zero b0 b32 fun j h => hbits j (by omega) h
            by_cases hb : b < 32
            · have d3 : decide (b < 32) = true := decide_eq_true hb
              have hTK := HR3.out.trans (pr_lt b0 hb hmod)
              injection hTK with hTe hKe
              subst hKe
              have hTz : T.size ≤ 1000 := by rw [hTe]; have h1 := prA_size a; have h2 := dcS_size b.toNat; rw [ByteArray.size_append, ByteArray.size_append, show (⟨#[47]⟩ : ByteArray).size = 1 from rfl]; omega
              have CN := Net_any T w6 (by omega)
              have CH := Lib.hid fun w' => hasN_any T 47 w' (by omega)
              unfold NetRes at CN
              rw [show netR T = (a, b, 0) by rw [hTe]; exact again_lt ha b0 hb hmod] at CN
              rw [show decide (0 ≤ Lib.indexByte T.data.toList 47) = true by rw [hTe]; exact decide_eq_true slash_lt] at CH
              have CN := Lib.hid CN
              obtain ⟨q0, q1⟩ := HN6.out.facts
              clear hTe HX HR3
              go_wp2_with fail
              refine CN.out.mono ?_
              rintro e w7 ⟨rfl, b7⟩
              have hN7 := (HN6.out.step b7).step ((Below.refl w7.heap.size w7).alloc (Nat.le_refl _) (.cells #[.int .u32 a, .int .i64 b] 70))
              have hp7 := Blk.new w7 70 #[.int .u32 a, .int .i64 b]
              clear b7 q0 q1 CN
              go_upto_region 16 with fail
              obtain ⟨Z, hZ⟩ : ∃ Z, w7.alloc (.cells #[.int .u32 a, .int .i64 b] 70) = Z := ⟨_, rfl⟩
              rw [hZ] at hN7 hp7 ⊢
              have n0 : Z.cell? ⟨w7.heap.size, 0, none⟩ = some (.int .u32 a) := hp7.cell 0
              have n1 : Z.cell? ⟨w7.heap.size, 1, none⟩ = some (.int .i64 b) := hp7.cell 1
              obtain ⟨q0, q1⟩ := hN7.facts
              have HN7 := Lib.hid hN7
              clear hZ hN7 hp7
              go_wp2_with fail
              go_quiet (first | (go_at_call 41; exact (CH.out _).mono fun _ _ h => ⟨h.1, _, h.2.symm⟩))
              go_wp2_with fail
              go_ret
              exact ⟨rfl, below_drewN HN7.out.be _⟩
            · have d3 : decide (b < 32) = false := decide_eq_false hb
              obtain rfl : b = 32 := by omega
              have hTK := HR3.out.trans (pr_full rfl hmod)
              injection hTK with hTe hKe
              subst hKe
              have hTz : T.size ≤ 1000 := by rw [hTe]; have h1 := prA_size a; omega
              have CN := Net_any T w6 (by omega)
              have CH := Lib.hid fun w' => hasN_any T 47 w' (by omega)
              unfold NetRes at CN
              rw [show netR T = (a, 32, 0) by rw [hTe]; exact again_full ha] at CN
              rw [show decide (0 ≤ Lib.indexByte T.data.toList 47) = false by rw [hTe]; exact decide_eq_false slash_full] at CH
              have CN := Lib.hid CN
              obtain ⟨q0, q1⟩ := HN6.out.facts
              clear hTe HX HR3
              go_wp2_with fail
              refine CN.out.mono ?_
              rintro e w7 ⟨rfl, b7⟩
              have hN7 := (HN6.out.step b7).step ((Below.refl w7.heap.size w7).alloc (Nat.le_refl _) (.cells #[.int .u32 a, .int .i64 32] 70))
              have hp7 := Blk.new w7 70 #[.int .u32 a, .int .i64 32]
              clear b7 q0 q1 CN
              go_upto_region 16 with fail
              obtain ⟨Z, hZ⟩ : ∃ Z, w7.alloc (.cells #[.int .u32 a, .int .i64 32] 70) = Z := ⟨_, rfl⟩
              rw [hZ] at hN7 hp7 ⊢
              have n0 : Z.cell? ⟨w7.heap.size, 0, none⟩ = some (.int .u32 a) := hp7.cell 0
              have n1 : Z.cell? ⟨w7.heap.size, 1, none⟩ = some (.int .i64 32) := hp7.cell 1
              obtain ⟨q0, q1⟩ := hN7.facts
              have HN7 := Lib.hid hN7
              clear hZ hN7 hp7
              go_wp2_with fail
              go_quiet (first | (go_at_call 41; exact (CH.out _).mono fun _ _ h => ⟨h.1, _, h.2.symm⟩))
              go_wp2_with fail
              go_ret
              exact ⟨rfl, below_drewN HN7.out.be _⟩
end Go.Proofs.YtkcncgdgicffhaaDoor
