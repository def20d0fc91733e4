/- Walks: wickref.Hits$1, wickref.Hits. (Printed by gen_phre.py.) -/
import Derived.Test.YtckinkapbfaceaaPhrD
namespace Go.Proofs.Ytckinkapbfaceaa
open Go.RowKit
set_option linter.unusedVariables false
set_option linter.unusedSimpArgs false

theorem chN_first {l : List Nd} (ht : TreeR l) {k : Nat} {x : Nd} (hx : l[k]? = some x) (hk : 0 < k) {u b : Int} (h : x.up = u ∧ x.b = b) : chN l l.length u b = some k := by
  have hkl := (List.getElem?_eq_some_iff.1 hx).1
  cases hc : chN l l.length u b with
  | none => exact absurd h (chN_none hc k x hk hkl hx)
  | some j =>
    obtain ⟨h1, h2, y, hy, h3⟩ := chN_some hc
    by_cases e : j = k
    · rw [e]
    · exfalso
      rcases Nat.lt_or_gt_of_ne e with h4 | h4
      · exact ht.one k j x y h1 h4 hx hy ⟨h3.1.trans h.1.symm, h3.2.trans h.2.symm⟩
      · exact ht.one j k y x hk h4 hy hx ⟨h.1.trans h3.1.symm, h.2.trans h3.2.symm⟩
section
variable (l : List Nd) (ad : Addr) (cap B : Nat) (w : World)
set_option maxHeartbeats 2000000 in
theorem child_any (h : NdR w B (some ad) cap l) (ht : TreeR l) (g : Nat) (hg : w.cell? ⟨g, 0, none⟩ = some (.slice (some ad) l.length cap)) (n b : Int) (r : Option Nat) (hr : chN l l.length n b = r) :
    Calls Try.prog 48 #[.int .i64 n, .int .u8 b, .pointer (some ⟨g, 0, none⟩)] w fun e w' => e = .returned (.int .i64 ((r.getD 0 : Nat) : Int)) ∧ w' = w := by
  have HR := Lib.hid h
  have HT := Lib.hid ht
  have HC := Lib.hid hr
  have hcap := h.hc
  have hfew := ht.few
  have hpos := ht.pos
  unfold maxLen at hcap
  clear h ht hr
  go_enter Try.func48, Try.ntmps48
  go_wp2_with fail
  go_loop [6] (fun u => ∃ k : Nat, u = .int .i64 (k : Int) ∧ 1 ≤ k ∧ k ≤ l.length ∧ Hid (chN l k n b = none)) (fun u => l.length - (intOf u).toNat)
  case atStart => exact ⟨1, rfl, by omega, by omega, by show chN l (0 + 1) _ _ = none; rw [chN_one]; rfl⟩
  case round =>
    obtain ⟨k, rfl, hk1, hk, HN⟩ := hrel
    by_cases hlk : k < l.length
    · have i1 : (k : Int) < (l.length : Int) := by omega
      obtain ⟨x, hx⟩ : ∃ x, l[k]? = some x := ⟨l[k], List.getElem?_eq_getElem hlk⟩
      obtain ⟨ad', e', _, x0, x1, x2, x3⟩ := HR.out.at_ hx
      obtain rfl : ad = ad' := by cases e'; rfl
      have HX := Lib.hid hx
      clear e' hx
      by_cases hu : x.up = n
      · by_cases hb : x.b = b
        · have e1 : (x.up == n) = true := by rw [beq_iff_eq]; exact hu
          have e2 : (x.b == b) = true := by rw [beq_iff_eq]; exact hb
          have HF : Hid (r = some k) := by show _ = _; rw [← HC.out]; exact chN_first HT.out HX.out (by omega) ⟨hu, hb⟩
          clear hu hb
          go_wp2_with fail
          go_ret
          exact ⟨by rw [HF.out]; rfl, rfl⟩
        · have e1 : (x.up == n) = true := by rw [beq_iff_eq]; exact hu
          have e2 : (x.b == b) = false := by rw [beq_eq_false_iff_ne]; exact hb
          have HN2 : Hid (chN l (k + 1) n b = none) := chN_no HN.out HX.out fun h => hb h.2
          clear hu hb
          go_wp2_with fail
          go_round
          case rel => exact ⟨k + 1, by go_num, by omega, by omega, HN2⟩
          case measure => simp [intOf]; omega
      · have e1 : (x.up == n) = false := by rw [beq_eq_false_iff_ne]; exact hu
        have HN2 : Hid (chN l (k + 1) n b = none) := chN_no HN.out HX.out fun h => hu h.1
        clear hu
        go_wp2_with fail
        go_round
        case rel => exact ⟨k + 1, by go_num, by omega, by omega, HN2⟩
        case measure => simp [intOf]; omega
    · obtain rfl : k = l.length := by omega
      have HF : Hid (r = none) := by show _ = _; rw [← HC.out]; exact HN.out
      clear hlk
      go_wp2_with fail
      go_ret
      exact ⟨by rw [HF.out]; rfl, rfl⟩
/-- the box of the tree; the hits so far -/
structure RSt (w wr : World) (ad : Addr) (cap : Nat) (l : List Nd) (v : Value) (L : List (Int × Int)) : Prop where
  be : Below w.heap.size w wr
  bx : Blk wr w.heap.size 38 #[.slice (some ad) l.length cap]
  oh : OH wr (w.heap.size + 1) v L
theorem RSt.sz {w wr : World} {ad : Addr} {cap : Nat} {l : List Nd} {v : Value} {L : List (Int × Int)} (h : RSt w wr ad cap l v L) : w.heap.size + 1 ≤ wr.heap.size := h.bx.lt
theorem RSt.app {w wr w1 : World} {ad : Addr} {cap : Nat} {l : List Nd} {v v1 : Value} {L L1 : List (Int × Int)} (h : RSt w wr ad cap l v L) (ho : OH w1 (w.heap.size + 1) v1 L1) (hg : Grew wr w1 v v1) : RSt w w1 ad cap l v1 L1 :=
  ⟨h.be.trans (hg.below (Nat.le_trans (Nat.le_succ _) h.sz) fun g hv => Nat.le_trans (Nat.le_succ _) (h.oh.lt g hv)), hg.blk h.bx (fun e => by have := h.oh.lt _ e; omega), ho⟩
def RefRes (l : List Nd) (s : ByteArray) (w : World) (e : Ending) (w' : World) : Prop := ∃ v, e = .returned v ∧ OH w' (w.heap.size + 1) v (hitsT l s.data.toList) ∧ Below w.heap.size w w'
set_option maxRecDepth 100000 in
set_option maxHeartbeats 8000000 in
theorem refhits_any (s : ByteArray) (h : NdR w B (some ad) cap l) (ht : TreeR l) (hs : s.size ≤ 8192) (hl : ∀ x ∈ l, x.ends.length ≤ 1048576) :
    Calls Try.prog 19 #[.slice (some ad) l.length cap, .string s] w (RefRes l s w) := by
  obtain ⟨W, hW⟩ : ∃ W, w.alloc (.cells #[.slice (some ad) l.length cap] 38) = W := ⟨_, rfl⟩
  have HS0 : Hid (RSt w W ad cap l (.slice none 0 0) []) := ⟨by rw [← hW]; exact (Below.refl _ _).alloc (Nat.le_refl _) _, by rw [← hW]; exact Blk.new _ _ _, OH.nil _ _⟩
  have HR0 := Lib.hid h
  have HT := Lib.hid ht
  have HL := Lib.hid hl
  have hfew := ht.few
  have hcap := h.hc
  have hpos := ht.pos
  unfold maxLen at hcap
  clear h ht hl
  go_enter Try.func19, Try.ntmps19
  go_wp2_with fail
  go_loopw [6, 7, 8] (fun o a u wr => ∃ (i at_ : Nat) (L : List (Int × Int)), u = .int .i64 (i : Int) ∧ i ≤ s.size ∧ a = .int .i64 (at_ : Int) ∧ at_ < l.length ∧ RSt w wr ad cap l o L ∧ Hid (hitK l s.data.toList i = (at_, L))) (fun _ _ u _ => s.size - (intOf u).toNat)
  case atStart => exact ⟨0, 0, [], rfl, by omega, rfl, by omega, HS0.out, rfl⟩
  case round =>
    obtain ⟨i, at_, L, rfl, hi, rfl, hat, hS, HH⟩ := hrel
    clear HS0 hW
    have HS := Lib.hid hS
    have hsz := hS.sz
    have y0 : wr.cell? ⟨w.heap.size, 0, none⟩ = some (.slice (some ad) l.length cap) := hS.bx.cell 0
    obtain ⟨Ao, co, ho⟩ := hS.oh.form
    subst ho
    by_cases hli : i < s.size
    · have i1 : (i : Int) < (s.size : Int) := by omega
      have hb : s.data.toList[i]? = some s[i] := by
        rw [List.getElem?_eq_getElem (by rw [lst_len]; exact hli)]; rfl
      have HBb := Lib.hid hb
      have CK := Lib.hid fun (n : Int) (r : Option Nat) (hr : chN l l.length n (s[i].toNat : Int) = r) => child_any l ad cap B wr (HR0.out.kept hS.be) HT.out w.heap.size y0 n _ r hr
      clear hS hb
      go_wp2_with fail
      go_loop [7] (fun a => ∃ at' : Nat, a = .int .i64 (at' : Int) ∧ at' < l.length ∧ Hid (stepN l (s[i].toNat : Int) at' = stepN l (s[i].toNat : Int) at_)) (fun a => (intOf a).toNat)
      case atStart => exact ⟨at_, rfl, hat, rfl⟩
      case round =>
        obtain ⟨at', rfl, hat', HG⟩ := hrel
        obtain ⟨r, hr⟩ : ∃ r, chN l l.length (at' : Int) (s[i].toNat : Int) = r := ⟨_, rfl⟩
        have HC := Lib.hid hr
        clear hr
        have C := Lib.hid (CK.out _ r HC.out)
        cases r with
        | none =>
          by_cases h0 : 0 < at'
          · have a0 : ((at' : Int) != 0) = true := by rw [bne_iff_ne]; omega
            obtain ⟨x, hx⟩ : ∃ x, l[at']? = some x := ⟨l[at'], List.getElem?_eq_getElem hat'⟩
            obtain ⟨ad', e', _, x0, x1, x2, x3⟩ := (HR0.out.kept HS.out.be).at_ hx
            obtain rfl : ad = ad' := by cases e'; rfl
            obtain ⟨f1, f2⟩ := HT.out.failN hx h0
            rw [f1] at x2
            have a1 : (at' : Int) < (l.length : Int) := by omega
            have HG2 : Hid (stepN l (s[i].toNat : Int) (failN l at') = stepN l (s[i].toNat : Int) at_) := by
              show _ = _
              rw [← HG.out]; unfold stepN; exact (goT_fail HC.out h0 f2).symm
            obtain ⟨F, hF⟩ : ∃ F, F = failN l at' := ⟨_, rfl⟩
            rw [← hF] at x2 HG2 f2
            clear e' hx f1 hF h0
            go_wp2_with fail
            refine C.out.mono ?_
            rintro e w1 ⟨rfl, rfl⟩
            go_wp2_with fail
            go_round
            case rel => exact ⟨F, rfl, by omega, HG2.out⟩
            case measure => simp [intOf]; omega
          · have a0 : ((at' : Int) != 0) = false := by rw [bne_eq_false_iff_eq]; omega
            have HN : Hid (hitK l s.data.toList (i + 1) = (at', L)) := by
              refine hitK_no HH.out HBb.out ?_
              rw [← HG.out]
              unfold stepN
              have e : at' = 0 := by omega
              have h := HC.out
              rw [e] at h ⊢
              exact goT_zero h
            have HA := Lib.hid h0
            clear h0
            go_wp2_with fail
            refine C.out.mono ?_
            rintro e w1 ⟨rfl, rfl⟩
            go_wp2_with fail
            go_roundw
            case rel => exact ⟨i + 1, at', L, by go_num, by omega, rfl, hat', HS.out, HN⟩
            case measure => simp [intOf]; omega
        | some q =>
          have hq := chN_some HC.out
          obtain ⟨x, hx⟩ : ∃ x, l[q]? = some x := ⟨l[q], List.getElem?_eq_getElem hq.2.1⟩
          have hql := hq.2.1
          have hq0 := hq.1
          have hle := HL.out x (List.mem_of_getElem? hx)
          have hce := ((HR0.out.kept HS.out.be).ok x (List.mem_of_getElem? hx)).ce
          unfold maxLen at hce
          have a1 : (q : Int) < (l.length : Int) := by omega
          have q0 : ((q : Int) == 0) = false := by rw [beq_eq_false_iff_ne]; omega
          have HX := Lib.hid hx
          have HN : Hid (hitK l s.data.toList (i + 1) = (q, L ++ x.ends.map fun e => (e, (i : Int) + 1))) := by
            have := hitK_yes (k := q) HH.out HBb.out (by rw [← HG.out]; unfold stepN; exact goT_some HC.out)
            rw [endsN_at hx] at this
            exact this
          clear hx hq
          by_cases h0 : 0 < at'
          · have a0 : ((at' : Int) != 0) = true := by rw [bne_iff_ne]; omega
            clear h0
            go_wp2_with fail
            refine C.out.mono ?_
            rintro e w1 ⟨rfl, rfl⟩
            go_wp2_with fail
            refine C.out.mono ?_
            rintro e w1 ⟨rfl, rfl⟩
            go_wp2_with fail
            go_loopw [6, 10] (fun o u wr => ∃ (j : Nat) (L2 : List (Int × Int)), u = .int .i64 (j : Int) ∧ j ≤ x.ends.length ∧ RSt w wr ad cap l o L2 ∧ Hid (L2 = L ++ (x.ends.take j).map fun e => (e, (i : Int) + 1))) (fun _ u _ => x.ends.length - (intOf u).toNat)
            case atStart => exact ⟨0, L, rfl, by omega, HS.out, by show _ = _; simp⟩
            case round =>
              obtain ⟨j, L2, rfl, hj, hS2, HL2⟩ := hrel
              clear y0
              have HS2 := Lib.hid hS2
              have hsz2 := hS2.sz
              have y0 : wr.cell? ⟨w.heap.size, 0, none⟩ = some (.slice (some ad) l.length cap) := hS2.bx.cell 0
              obtain ⟨ad', e', _, x0, x1, x2, x3⟩ := (HR0.out.kept hS2.be).at_ HX.out
              obtain rfl : ad = ad' := by cases e'; rfl
              obtain ⟨Ao2, co2, ho2⟩ := hS2.oh.form
              subst ho2
              clear e'
              by_cases hlj : j < x.ends.length
              · have j1 : (j : Int) < (x.ends.length : Int) := by omega
                obtain ⟨ed, hed, _, z0⟩ := (HR0.out.kept hS2.be).end_ HX.out hlj
                obtain ⟨E, hEE⟩ : ∃ E, E = x.ends[j] := ⟨_, rfl⟩
                have HL3 : Hid (L2 ++ [(E, (i : Int) + 1)] = L ++ (x.ends.take (j + 1)).map fun e => (e, (i : Int) + 1)) := by
                  show _ = _
                  rw [HL2.out, show x.ends.take (j + 1) = x.ends.take j ++ [x.ends[j]] from (List.take_append_getElem hlj).symm, List.map_append, hEE, List.append_assoc]; rfl
                rw [← hEE] at z0
                have hl2 : L2.length ≤ 8589934592 := by
                  have h1 : L2.length ≤ L.length + 1048576 := by rw [HL2.out, List.length_append, List.length_map, List.length_take]; omega
                  have h2 := hitK_len HL.out s.data.toList i
                  rw [HH.out] at h2
                  have h3 : i * 1048576 ≤ 8191 * 1048576 := Nat.mul_le_mul_right _ (by omega)
                  exact Nat.le_trans h1 (Nat.le_trans (Nat.add_le_add_right (Nat.le_trans h2 h3) _) (by decide))
                have i3 : IntKind.i64.wrap ((i : Int) + 1) = (i : Int) + 1 := IntWalk.i64_in _ (by omega)
                rw [hed] at x3
                clear hS2 hEE hed
                go_wp2_with (first | (at_builtin; refine wpL_appH' rfl (.tmp 53) (.tmp 65) rfl HS2.out.oh rfl E ((i : Int) + 1) rfl rfl L2.length rfl hl2 hsz2 ?_; intro A3 c3 w3 h3 g3) | fail)
                have HS3 := Lib.hid (HS2.out.app h3 g3)
                clear h3 g3
                go_wp2_with fail
                go_roundw
                case rel => exact ⟨j + 1, _, by go_num, by omega, HS3.out, HL3⟩
                case measure => simp [intOf]; omega
              · obtain rfl : j = x.ends.length := by omega
                have HN2 : Hid (hitK l s.data.toList (i + 1) = (q, L2)) := by
                  show _ = _
                  rw [HN.out, HL2.out, List.take_length]
                clear hlj hS2
                go_wp2_with fail
                go_roundw
                case rel => exact ⟨i + 1, q, L2, by go_num, by omega, rfl, hql, HS2.out, HN2⟩
                case measure => simp [intOf]; omega
          · have a0 : ((at' : Int) != 0) = false := by rw [bne_eq_false_iff_eq]; omega
            have HA := Lib.hid h0
            clear h0
            go_wp2_with fail
            refine C.out.mono ?_
            rintro e w1 ⟨rfl, rfl⟩
            go_wp2_with fail
            go_loopw [6, 10] (fun o u wr => ∃ (j : Nat) (L2 : List (Int × Int)), u = .int .i64 (j : Int) ∧ j ≤ x.ends.length ∧ RSt w wr ad cap l o L2 ∧ Hid (L2 = L ++ (x.ends.take j).map fun e => (e, (i : Int) + 1))) (fun _ u _ => x.ends.length - (intOf u).toNat)
            case atStart => exact ⟨0, L, rfl, by omega, HS.out, by show _ = _; simp⟩
            case round =>
              obtain ⟨j, L2, rfl, hj, hS2, HL2⟩ := hrel
              clear y0
              have HS2 := Lib.hid hS2
              have hsz2 := hS2.sz
              have y0 : wr.cell? ⟨w.heap.size, 0, none⟩ = some (.slice (some ad) l.length cap) := hS2.bx.cell 0
              obtain ⟨ad', e', _, x0, x1, x2, x3⟩ := (HR0.out.kept hS2.be).at_ HX.out
              obtain rfl : ad = ad' := by cases e'; rfl
              obtain ⟨Ao2, co2, ho2⟩ := hS2.oh.form
              subst ho2
              clear e'
              by_cases hlj : j < x.ends.length
              · have j1 : (j : Int) < (x.ends.length : Int) := by omega
                obtain ⟨ed, hed, _, z0⟩ := (HR0.out.kept hS2.be).end_ HX.out hlj
                obtain ⟨E, hEE⟩ : ∃ E, E = x.ends[j] := ⟨_, rfl⟩
                have HL3 : Hid (L2 ++ [(E, (i : Int) + 1)] = L ++ (x.ends.take (j + 1)).map fun e => (e, (i : Int) + 1)) := by
                  show _ = _
                  rw [HL2.out, show x.ends.take (j + 1) = x.ends.take j ++ [x.ends[j]] from (List.take_append_getElem hlj).symm, List.map_append, hEE, List.append_assoc]; rfl
                rw [← hEE] at z0
                have hl2 : L2.length ≤ 8589934592 := by
                  have h1 : L2.length ≤ L.length + 1048576 := by rw [HL2.out, List.length_append, List.length_map, List.length_take]; omega
                  have h2 := hitK_len HL.out s.data.toList i
                  rw [HH.out] at h2
                  have h3 : i * 1048576 ≤ 8191 * 1048576 := Nat.mul_le_mul_right _ (by omega)
                  exact Nat.le_trans h1 (Nat.le_trans (Nat.add_le_add_right (Nat.le_trans h2 h3) _) (by decide))
                have i3 : IntKind.i64.wrap ((i : Int) + 1) = (i : Int) + 1 := IntWalk.i64_in _ (by omega)
                rw [hed] at x3
                clear hS2 hEE hed
                go_wp2_with (first | (at_builtin; refine wpL_appH' rfl (.tmp 53) (.tmp 65) rfl HS2.out.oh rfl E ((i : Int) + 1) rfl rfl L2.length rfl hl2 hsz2 ?_; intro A3 c3 w3 h3 g3) | fail)
                have HS3 := Lib.hid (HS2.out.app h3 g3)
                clear h3 g3
                go_wp2_with fail
                go_roundw
                case rel => exact ⟨j + 1, _, by go_num, by omega, HS3.out, HL3⟩
                case measure => simp [intOf]; omega
              · obtain rfl : j = x.ends.length := by omega
                have HN2 : Hid (hitK l s.data.toList (i + 1) = (q, L2)) := by
                  show _ = _
                  rw [HN.out, HL2.out, List.take_length]
                clear hlj hS2
                go_wp2_with fail
                go_roundw
                case rel => exact ⟨i + 1, q, L2, by go_num, by omega, rfl, hql, HS2.out, HN2⟩
                case measure => simp [intOf]; omega
    · obtain rfl : i = s.size := by omega
      have HF : Hid (hitsT l s.data.toList = L) := by
        show _ = _
        unfold hitsT
        rw [lst_len, HH.out]
      clear hli hS
      go_wp2_with fail
      go_ret
      exact ⟨_, rfl, by rw [HF.out]; exact HS.out.oh, HS.out.be⟩
end
end Go.Proofs.Ytckinkapbfaceaa
