/- Walks: wickref.place; pipe.Parse, wickref.ReadPipe. -/
import Derived.Test.YthnbhpchemjioaaDoorPipB
import Derived.Test.YthnbhpchemjioaaDoorIntA
import Derived.Deep.QuietTactic
import Derived.BigQuiet
namespace Go.Proofs.YthnbhpchemjioaaDoor
open Go.RowKit
set_option linter.unusedVariables false
set_option linter.unusedSimpArgs false

/-- the first word from k on that is w (n of them are looked at) -/
def plF (w : ByteArray) : Nat → Nat → Nat
  | 0, k => k
  | n + 1, k => if pwB k = w then k else plF w n (k + 1)
structure IsPl (w : ByteArray) (k : Nat) : Prop where
  lo : 1 ≤ k
  hi : k ≤ 12
  no : ∀ j, 1 ≤ j → j < k → pwB j ≠ w
  yes : k ≤ 11 → pwB k = w
theorem IsPl.same {w : ByteArray} {k k' : Nat} (h : IsPl w k) (h' : IsPl w k') : k = k' := by
  rcases Nat.lt_trichotomy k k' with e | e | e
  · exact absurd (h.yes (by have := h'.hi; omega)) (h'.no k h.lo e)
  · exact e
  · exact absurd (h'.yes (by have := h.hi; omega)) (h.no k' h'.lo e)
theorem plF_is (w : ByteArray) : ∀ n k, k + n = 12 → 1 ≤ k → (∀ j, 1 ≤ j → j < k → pwB j ≠ w) → IsPl w (plF w n k)
  | 0, k, h, h1, h2 => ⟨h1, by unfold plF; omega, h2, fun h3 => (by unfold plF at h3; omega)⟩
  | n + 1, k, h, h1, h2 => by
    unfold plF
    by_cases e : pwB k = w
    · rw [if_pos e]; exact ⟨h1, by omega, h2, fun _ => e⟩
    · rw [if_neg e]
      exact plF_is w n (k + 1) (by omega) (by omega) fun j j1 j2 => by
        by_cases ej : j = k
        · subst ej; exact e
        · exact h2 j j1 (by omega)
def plK (w : ByteArray) : Nat := plF w 11 1
theorem plK_is (w : ByteArray) : IsPl w (plK w) := plF_is w 11 1 rfl (Nat.le_refl _) fun j h1 h2 => absurd h2 (by omega)
theorem str_eqB {a b : ByteArray} (h : a = b) : (a.toList == b.toList) = true := by rw [h]; exact beq_self_eq_true _
theorem str_neB {a b : ByteArray} (h : ¬ a = b) : (a.toList == b.toList) = false := by
  rw [beq_eq_false_iff_ne]; intro e; rw [Lib.toList_data, Lib.toList_data] at e; exact h (lst_inj e)
def plI (w : ByteArray) : Int := if plK w ≤ 11 then (plK w : Int) else 0
section
variable (x : ByteArray) (w : World)
set_option maxHeartbeats 2000000 in
theorem place_any (hP : PW w) :
    Calls Tryd.prog 82 #[.string x, .slice (some ⟨0, 0, none⟩) 12 12] w fun e w' => e = .returned (.int .i64 (plI x)) ∧ w = w' := by
  have HP := Lib.hid hP
  have HK := Lib.hid (plK_is x)
  clear hP
  go_enter Tryd.func82, Tryd.ntmps82
  go_wp2_with fail
  go_loop [5] (fun u => ∃ k : Nat, u = .int .i64 (k : Int) ∧ 1 ≤ k ∧ k ≤ 12 ∧ Hid (∀ j, 1 ≤ j → j < k → pwB j ≠ x)) (fun u => 12 - (intOf u).toNat)
  case atStart => exact ⟨1, rfl, by omega, by omega, fun j h1 h2 => absurd h2 (by omega)⟩
  case round =>
    obtain ⟨k, rfl, hk1, hk, HA⟩ := hrel
    by_cases hlk : k < 12
    · have k1 : (k : Int) < 12 := by omega
      have k2 : (0 : Int) ≤ (k : Int) := by omega
      have y0 := HP.out.2 k hlk
      by_cases he : pwB k = x
      · have h1 := str_eqB he
        have HE : Hid (plI x = (k : Int)) := by
          have e : plK x = k := HK.out.same ⟨hk1, by omega, HA.out, fun _ => he⟩
          show _ = _
          unfold plI; rw [e, if_pos (by omega)]
        clear he
        go_wp2_with fail
        go_ret
        exact ⟨by rw [HE.out]; rfl, rfl⟩
      · have h1 := str_neB he
        have HA2 : Hid (∀ j, 1 ≤ j → j < k + 1 → pwB j ≠ x) := fun j j1 j2 => by
          by_cases ej : j = k
          · subst ej; exact he
          · exact HA.out j j1 (by omega)
        clear he
        go_wp2_with fail
        go_round
        case rel => exact ⟨k + 1, by go_num, by omega, by omega, HA2⟩
        case measure => simp [intOf]; omega
    · obtain rfl : k = 12 := by omega
      have HE : Hid (plI x = 0) := by
        have e : plK x = 12 := HK.out.same ⟨by omega, by omega, HA.out, fun h => absurd h (by omega)⟩
        show _ = _
        unfold plI; rw [e]; rfl
      clear hlk
      go_wp2_with fail
      go_ret
      exact ⟨by rw [HE.out]; rfl, rfl⟩
end
theorem OI.low {w : World} {B B' : Nat} {v : Value} {l : List Int} (h : OI w B v l) (hB : B' ≤ B) : OI w B' v l := by
  refine ⟨h.1, ?_⟩
  rcases h.2 with h2 | ⟨g, cap, cur, e1, e2, e3⟩
  · exact .inl h2
  · exact .inr ⟨g, cap, cur, e1, by omega, e3⟩
def rpE (s : ByteArray) : Int := if s = ⟨#[45]⟩ then 0 else if 8 < (pcs s ⟨#[44]⟩).length then 2 else if ∀ x ∈ pcs s ⟨#[44]⟩, plK x ≤ 11 then 0 else 3
def rpL (s : ByteArray) : List Int := if s = ⟨#[45]⟩ then [] else if rpE s = 0 then (pcs s ⟨#[44]⟩).map fun x => (plK x : Int) else []
def PRes (s : ByteArray) (w : World) (e : Ending) (w' : World) : Prop := ∃ v, e = .returned (.tuple #[v, .int .i64 (rpE s)]) ∧ OI w' w.heap.size v (rpL s) ∧ Below w.heap.size w w'
theorem dash_eqB {s : ByteArray} (h : s = ⟨#[45]⟩) : (s.toList == [45]) = true := by rw [h, Lib.toList_data]; rfl
theorem dash_neB {s : ByteArray} (h : ¬ s = ⟨#[45]⟩) : (s.toList == [45]) = false := by
  rw [beq_eq_false_iff_ne]; intro e; rw [Lib.toList_data] at e; exact h (lst_inj e)
section
variable (s : ByteArray) (m : Int) (w : World)
theorem rp_dash (h : s = ⟨#[45]⟩) : rpE s = 0 ∧ rpL s = [] := by unfold rpL rpE; rw [if_pos h, if_pos h]; exact ⟨rfl, rfl⟩
theorem rp_many (h : ¬ s = ⟨#[45]⟩) (h2 : 8 < (pcs s ⟨#[44]⟩).length) : rpE s = 2 ∧ rpL s = [] := by
  have e : rpE s = 2 := by unfold rpE; rw [if_neg h, if_pos h2]
  unfold rpL; rw [if_neg h, e, if_neg (by decide)]; exact ⟨rfl, rfl⟩
theorem rp_bad (h : ¬ s = ⟨#[45]⟩) (h2 : ¬ 8 < (pcs s ⟨#[44]⟩).length) {x : ByteArray} (hx : x ∈ pcs s ⟨#[44]⟩) (hb : ¬ plK x ≤ 11) : rpE s = 3 ∧ rpL s = [] := by
  have e : rpE s = 3 := by unfold rpE; rw [if_neg h, if_neg h2, if_neg fun k => hb (k x hx)]
  unfold rpL; rw [if_neg h, e, if_neg (by decide)]; exact ⟨rfl, rfl⟩
theorem rp_ok (h : ¬ s = ⟨#[45]⟩) (h2 : ¬ 8 < (pcs s ⟨#[44]⟩).length) (ha : ∀ x ∈ pcs s ⟨#[44]⟩, plK x ≤ 11) : rpE s = 0 ∧ rpL s = (pcs s ⟨#[44]⟩).map fun x => (plK x : Int) := by
  have e : rpE s = 0 := by unfold rpE; rw [if_neg h, if_neg h2, if_pos ha]
  unfold rpL; rw [if_neg h, e, if_pos rfl]; exact ⟨rfl, rfl⟩
def plL (L : List ByteArray) : List Int := L.map fun x => (plK x : Int)
theorem plL_snoc {L : List ByteArray} {k : Nat} (h : k < L.length) : plL (L.take (k + 1)) = plL (L.take k) ++ [(plK L[k] : Int)] := by
  unfold plL; rw [List.take_succ_eq_append_getElem h, List.map_append]; rfl
theorem plL_len (L : List ByteArray) : (plL L).length = L.length := by unfold plL; rw [List.length_map]
set_option maxHeartbeats 4000000 in
theorem pipeParse_any (hs : s.size ≤ 1048576) (hm : w.cell? ⟨1, 0, none⟩ = some (.int .i64 m)) :
    Calls Tryd.prog 27 #[.string s] w (PRes s w) := by
  by_cases h1 : s = ⟨#[45]⟩
  · have HE := Lib.hid (rp_dash s h1)
    have e1 := dash_eqB h1
    clear h1 hm
    go_enter Tryd.func27, Tryd.ntmps27
    go_wp2_with fail
    go_ret2
    exact ⟨.slice none 0 0, by rw [HE.out.1]; rfl, by rw [HE.out.2]; exact OI.nil _ _, Below.refl _ _⟩
  · have e1 := dash_neB h1
    have CS := Lib.hid (sp_any s ⟨#[44]⟩ m w hs hm (by decide))
    have HN := Lib.hid h1
    obtain ⟨L, hL⟩ : ∃ L, L = pcs s ⟨#[44]⟩ := ⟨_, rfl⟩
    have hL0 : 0 < L.length := by rw [hL]; exact pcs_pos _ _ (by decide)
    have hL1 : L.length ≤ 1048577 := by rw [hL]; have := pcs_le (s := s) (t := ⟨#[44]⟩) (by decide); omega
    rw [← hL] at CS
    have HL := Lib.hid hL
    clear hL h1 hm
    by_cases h8 : 8 < L.length
    · have d1 : (8 : Int) < (L.length : Int) := by omega
      have HE := Lib.hid (rp_many s HN.out (by rw [← HL.out]; exact h8))
      go_enter Tryd.func27, Tryd.ntmps27
      go_wp2_with fail
      refine CS.out.mono ?_
      rintro e w1 ⟨rfl, ho, b1⟩
      have HB1 := Lib.hid b1
      clear ho b1 CS
      go_wp2_with fail
      go_ret2
      exact ⟨.slice none 0 0, by rw [HE.out.1]; rfl, by rw [HE.out.2]; exact OI.nil _ _, HB1.out⟩
    · have d1 : ¬ (8 : Int) < (L.length : Int) := by omega
      go_enter Tryd.func27, Tryd.ntmps27
      go_wp2_with fail
      refine CS.out.mono ?_
      rintro e w1 ⟨rfl, ho, b1⟩
      obtain ⟨g, eg, hg, hgl, _, hcell⟩ := ho.at_ hL0
      injection eg with eg; injection eg with eg
      subst eg
      have HO1 := Lib.hid ho
      have HB1 := Lib.hid b1
      have hz1 := b1.size
      clear ho b1 CS hcell
      go_wp2_with fail
      go_loopw [5, 18] (fun v u wr => ∃ k : Nat, u = .int .i64 (k : Int) ∧ k ≤ L.length ∧ OI wr w1.heap.size v (plL (L.take k)) ∧ Below w1.heap.size w1 wr ∧ Hid (∀ x ∈ L.take k, plK x ≤ 11)) (fun _ u _ => L.length - (intOf u).toNat)
      case atStart => exact ⟨0, rfl, by omega, OI.nil _ _, Below.refl _ _, fun x hx => absurd hx (by simp)⟩
      case round =>
        obtain ⟨k, rfl, hk, ho, hb, HA⟩ := hrel
        have hsz := hb.size
        have HO := Lib.hid ho
        have HB := Lib.hid hb
        by_cases hlk : k < L.length
        · have k1 : (k : Int) < (L.length : Int) := by omega
          obtain ⟨x, hx⟩ : ∃ x, x = L[k] := ⟨_, rfl⟩
          obtain ⟨g', eg, _, _, _, hcell⟩ := (HO1.out.kept hb).at_ hL0
          injection eg with eg; injection eg with eg
          subst eg
          have y0 : wr.cell? ⟨w.heap.size, k, none⟩ = some (.string x) := by rw [hx]; exact hcell k hlk
          have HT : Hid (L.take (k + 1) = L.take k ++ [x]) := by show _ = _; rw [List.take_succ_eq_append_getElem hlk, hx]
          have HX : Hid (x ∈ pcs s ⟨#[44]⟩) := by show _ ∈ _; rw [← HL.out, hx]; exact List.getElem_mem _
          have HP2 : Hid (plL (L.take (k + 1)) = plL (L.take k) ++ [(plK x : Int)]) := by show _ = _; rw [plL_snoc hlk, hx]
          have hpl : (plL (L.take k)).length ≤ 8 := by rw [plL_len, List.length_take]; omega
          have HK := Lib.hid (plK_is x)
          clear ho hb hcell hx
          go_wp2_with fail
          obtain ⟨wm, rfl⟩ : ∃ wm : World, wm = wr := ⟨_, rfl⟩
          go_loop [8] (fun u => ∃ j : Nat, u = .int .i64 (j : Int) ∧ 1 ≤ j ∧ j ≤ 12 ∧ Hid (∀ i, 1 ≤ i → i < j → pwB i ≠ x)) (fun u => 12 - (intOf u).toNat)
          case atStart => exact ⟨1, rfl, by omega, by omega, fun j h1 h2 => absurd h2 (by omega)⟩
          case round =>
            obtain ⟨j, rfl, hj1, hj, HJ⟩ := hrel
            by_cases hlj : j < 12
            · have j1 : (j : Int) ≤ 11 := by omega
              have CW := Lib.hid fun w' => word_any j hlj w'
              by_cases he : pwB j = x
              · have q1 := str_eqB he
                have HE : Hid (plK x = j) := HK.out.same ⟨hj1, by omega, HJ.out, fun _ => he⟩
                have HA2 : Hid (∀ y ∈ L.take (k + 1), plK y ≤ 11) := fun y hy => by
                  rw [HT.out, List.mem_append, List.mem_singleton] at hy
                  rcases hy with hy | rfl
                  · exact HA.out y hy
                  · rw [HE.out]; omega
                clear he
                go_wp2_with fail
                refine (CW.out _).mono ?_
                rintro e w' ⟨rfl, rfl⟩
                go_wp2_with (at_builtin; refine wpL_appI rfl (.tmp 34) (.tmp 36) rfl HO.out rfl _ [(j : Int)] rfl rfl (by rw [List.length_singleton]; omega) hsz ?_; intro v' w2 ho2 hb2; have HO2 := Lib.hid ho2; have HB2 := Lib.hid hb2; clear ho2 hb2)
                go_roundw
                case rel => exact ⟨k + 1, by go_num, by omega, by rw [HP2.out, HE.out]; exact HO2.out, HB.out.trans HB2.out, HA2⟩
                case measure => simp [intOf]; omega
              · have q1 := str_neB he
                have HJ2 : Hid (∀ i, 1 ≤ i → i < j + 1 → pwB i ≠ x) := fun i i1 i2 => by
                  by_cases ei : i = j
                  · subst ei; exact he
                  · exact HJ.out i i1 (by omega)
                clear he
                go_wp2_with fail
                refine (CW.out _).mono ?_
                rintro e w' ⟨rfl, rfl⟩
                go_wp2_with fail
                go_round
                case rel => exact ⟨j + 1, by go_num, by omega, by omega, HJ2⟩
                case measure => simp [intOf]; omega
            · obtain rfl : j = 12 := by omega
              have e12 : plK x = 12 := HK.out.same ⟨by omega, by omega, HJ.out, fun h => absurd h (by omega)⟩
              have HE := Lib.hid (rp_bad s HN.out (by rw [← HL.out]; exact h8) HX.out (by rw [e12]; omega))
              clear hlj e12
              go_wp2_with fail
              go_ret2
              exact ⟨.slice none 0 0, by rw [HE.out.1]; rfl, by rw [HE.out.2]; exact OI.nil _ _, HB1.out.trans (HB.out.mono hz1)⟩
        · obtain rfl : k = L.length := by omega
          rw [List.take_length] at HO HA
          have HE := Lib.hid (rp_ok s HN.out (by rw [← HL.out]; exact h8) (by rw [← HL.out]; exact HA.out))
          obtain ⟨A', c', rfl⟩ := HO.out.form
          clear ho hb hlk
          go_wp2_with fail
          go_ret2
          exact ⟨.slice A' (plL L).length c', by rw [HE.out.1]; rfl, by rw [HE.out.2, ← HL.out]; exact OI.low HO.out hz1, HB1.out.trans (HB.out.mono hz1)⟩
set_option maxHeartbeats 4000000 in
theorem readPipe_any (hs : s.size ≤ 1048576) (hP : PW w) :
    Calls Tryd.prog 28 #[.string s] w (PRes s w) := by
  by_cases h1 : s = ⟨#[45]⟩
  · have HE := Lib.hid (rp_dash s h1)
    have e1 := dash_eqB h1
    clear h1 hP
    go_enter Tryd.func28, Tryd.ntmps28
    go_wp2_with fail
    go_ret2
    exact ⟨.slice none 0 0, by rw [HE.out.1]; rfl, by rw [HE.out.2]; exact OI.nil _ _, Below.refl _ _⟩
  · have e1 := dash_neB h1
    have CS := Lib.hid (pieces_any s ⟨#[44]⟩ w hs (by decide) (by decide))
    have HN := Lib.hid h1
    have HP := Lib.hid hP
    obtain ⟨L, hL⟩ : ∃ L, L = pcs s ⟨#[44]⟩ := ⟨_, rfl⟩
    have hL0 : 0 < L.length := by rw [hL]; exact pcs_pos _ _ (by decide)
    have hL1 : L.length ≤ 1048577 := by rw [hL]; have := pcs_le (s := s) (t := ⟨#[44]⟩) (by decide); omega
    rw [← hL] at CS
    have HL := Lib.hid hL
    clear hL h1 hP
    by_cases h8 : 8 < L.length
    · have d1 : (8 : Int) < (L.length : Int) := by omega
      have HE := Lib.hid (rp_many s HN.out (by rw [← HL.out]; exact h8))
      go_enter Tryd.func28, Tryd.ntmps28
      go_wp2_with fail
      refine CS.out.mono ?_
      rintro e w1 ⟨v, rfl, ho, b1⟩
      obtain ⟨A, c, rfl⟩ := ho.form
      have HB1 := Lib.hid b1
      clear ho b1 CS
      go_wp2_with fail
      go_ret2
      exact ⟨.slice none 0 0, by rw [HE.out.1]; rfl, by rw [HE.out.2]; exact OI.nil _ _, HB1.out⟩
    · have d1 : ¬ (8 : Int) < (L.length : Int) := by omega
      go_enter Tryd.func28, Tryd.ntmps28
      go_wp2_with fail
      refine CS.out.mono ?_
      rintro e w1 ⟨v, rfl, ho, b1⟩
      obtain ⟨A, c, rfl⟩ := ho.form
      obtain ⟨g, rfl, hg, hgl, _, hcell⟩ := ho.at_ hL0
      have HO1 := Lib.hid ho
      have HB1 := Lib.hid b1
      have hz1 := b1.size
      clear ho b1 CS hcell
      go_wp2_with fail
      go_loopw [5, 6] (fun v u wr => ∃ k : Nat, u = .int .i64 (k : Int) ∧ k ≤ L.length ∧ OI wr w1.heap.size v (plL (L.take k)) ∧ Below w1.heap.size w1 wr ∧ Hid (∀ x ∈ L.take k, plK x ≤ 11)) (fun _ u _ => L.length - (intOf u).toNat)
      case atStart => exact ⟨0, rfl, by omega, OI.nil _ _, Below.refl _ _, fun x hx => absurd hx (by simp)⟩
      case round =>
        obtain ⟨k, rfl, hk, ho, hb, HA⟩ := hrel
        have hsz := hb.size
        have HO := Lib.hid ho
        have HB := Lib.hid hb
        by_cases hlk : k < L.length
        · have k1 : (k : Int) < (L.length : Int) := by omega
          have k2 : (0 : Int) ≤ (k : Int) := by omega
          obtain ⟨x, hx⟩ : ∃ x, x = L[k] := ⟨_, rfl⟩
          obtain ⟨g', eg, _, _, _, hcell⟩ := (HO1.out.kept hb).at_ hL0
          injection eg with eg; injection eg with eg
          subst eg
          have y0 : wr.cell? ⟨g, k, none⟩ = some (.string x) := by rw [hx]; exact hcell k hlk
          have HT : Hid (L.take (k + 1) = L.take k ++ [x]) := by show _ = _; rw [List.take_succ_eq_append_getElem hlk, hx]
          have HX : Hid (x ∈ pcs s ⟨#[44]⟩) := by show _ ∈ _; rw [← HL.out, hx]; exact List.getElem_mem _
          have HP2 : Hid (plL (L.take (k + 1)) = plL (L.take k) ++ [(plK x : Int)]) := by show _ = _; rw [plL_snoc hlk, hx]
          have hpl : (plL (L.take k)).length ≤ 8 := by rw [plL_len, List.length_take]; omega
          have HK := Lib.hid (plK_is x)
          have hPr : PW wr := HP.out.below (HB1.out.trans (hb.mono hz1))
          have CPl := Lib.hid fun q => place_any x (wr.drewN q) ⟨hPr.1, hPr.2⟩
          have HI : Hid (plI x = if plK x ≤ 11 then (plK x : Int) else 0) := rfl
          obtain ⟨p, hp⟩ : ∃ p, p = plI x := ⟨_, rfl⟩
          rw [← hp] at CPl HI
          clear ho hb hcell hx hPr hp
          go_wp2_with fail
          go_quiet ((go_at_call 82; exact quiet_left (CPl.out _)))
          by_cases h11 : plK x ≤ 11
          · have hp2 : p = (plK x : Int) := by have := HI.out; rwa [if_pos h11] at this
            have hpk : (p == 0) = false := by rw [beq_eq_false_iff_ne, hp2]; have := HK.out.lo; omega
            have HPp := Lib.hid hp2
            have HA2 : Hid (∀ y ∈ L.take (k + 1), plK y ≤ 11) := fun y hy => by
              rw [HT.out, List.mem_append, List.mem_singleton] at hy
              rcases hy with hy | rfl
              · exact HA.out y hy
              · exact h11
            clear hp2 h11
            go_wp2_with (at_builtin; refine wpL_appI rfl (.tmp 29) (.tmp 31) rfl (HO.out.drewN _) rfl _ [p] rfl rfl (by rw [List.length_singleton]; omega) hsz ?_; intro v' w2 ho2 hb2; have HO2 := Lib.hid ho2; have HB2 := Lib.hid hb2; clear ho2 hb2)
            go_roundw
            case rel => exact ⟨k + 1, by go_num, by omega, by rw [HP2.out, ← HPp.out]; exact HO2.out, (below_drewN HB.out _).trans HB2.out, HA2⟩
            case measure => simp [intOf]; omega
          · have hp2 : p = 0 := by have := HI.out; rwa [if_neg h11] at this
            subst hp2
            have HE := Lib.hid (rp_bad s HN.out (by rw [← HL.out]; exact h8) HX.out h11)
            clear h11
            go_wp2_with fail
            go_ret2
            exact ⟨.slice none 0 0, by rw [HE.out.1]; rfl, by rw [HE.out.2]; exact OI.nil _ _, HB1.out.trans ((below_drewN HB.out _).mono hz1)⟩
        · obtain rfl : k = L.length := by omega
          rw [List.take_length] at HO HA
          have HE := Lib.hid (rp_ok s HN.out (by rw [← HL.out]; exact h8) (by rw [← HL.out]; exact HA.out))
          obtain ⟨A', c', rfl⟩ := HO.out.form
          clear ho hb hlk
          go_wp2_with fail
          go_ret2
          exact ⟨.slice A' (plL L).length c', by rw [HE.out.1]; rfl, by rw [HE.out.2, ← HL.out]; exact OI.low HO.out hz1, HB1.out.trans (HB.out.mono hz1)⟩
end
end Go.Proofs.YthnbhpchemjioaaDoor
