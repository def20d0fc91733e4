/- Walk: phrase.hits. (Printed by gen_phrd.py.) -/
import Derived.Test.YtckinkapbfaceaaHit
namespace Go.Proofs.Ytckinkapbfaceaa
open Go.RowKit
set_option linter.unusedVariables false
set_option linter.unusedSimpArgs false

theorem wf_byte (b : UInt8) : (Lit.int .u8 (b.toNat : Int)).wf = true := all_bytes (P := fun b => (Lit.int .u8 (b.toNat : Int)).wf = true) (by decide +kernel) b
/-- the map holds all edges; the hits so far -/
structure HSt (w wr : World) (l : List Nd) (v : Value) (L : List (Int × Int)) : Prop where
  be : Below w.heap.size w wr
  em : EdgeM wr w.heap.size l.length (chN l l.length)
  oh : OH wr (w.heap.size + 1) v L
theorem HSt.sz {w wr : World} {l : List Nd} {v : Value} {L : List (Int × Int)} (h : HSt w wr l v L) : w.heap.size + 1 ≤ wr.heap.size := h.em.lt
theorem HSt.app {w wr w1 : World} {l : List Nd} {v v1 : Value} {L L1 : List (Int × Int)} (h : HSt w wr l v L) (ho : OH w1 (w.heap.size + 1) v1 L1) (hg : Grew wr w1 v v1) : HSt w w1 l v1 L1 :=
  ⟨h.be.trans (hg.below (Nat.le_trans (Nat.le_succ _) h.sz) fun g hv => Nat.le_trans (Nat.le_succ _) (h.oh.lt g hv)), h.em.grown hg.grown (fun e => by have := h.oh.lt _ e.symm; omega), ho⟩
theorem wpL_appH' {w : World} {B : Nat} {v : Value} {l : List (Int × Int)} {ops : Array Oper} {rest : List Oper} {o : Oper} {a : Act} {Q : Exit → Act → World → Prop} (hgd : o.guard = none) (s x : Operand)
    (ho : o.op = .call { callee := .builtin .append, args := #[s, x], argTypes := #[40, 40] })
    (h : OH w B v l) (hs : a.eval s = v) (p q : Int) {N : Nat} (hx : a.eval x = .slice (some ⟨N, 0, none⟩) 1 1) (hN : N = w.heap.size) (n : Nat) (hn : l.length = n) (hlen : n ≤ 8589934592) (hB : B ≤ w.heap.size)
    (hK : ∀ A c w', OH w' B (.slice A (n + 1) c) (l ++ [(p, q)]) → Grew w w' v (.slice A (n + 1) c) → wpList Try.prog ops Q rest (a.put o.dst (.slice A (n + 1) c)) w') :
    wpList Try.prog ops Q (o :: rest) a (w.alloc (.cells #[.int .i64 p, .int .i64 q] 47)) := by
  subst hn
  refine wpL_appH hgd s x ho h hs p q hx hN hlen hB fun v' w' h2 h3 => ?_
  obtain ⟨A, c, rfl⟩ := h2.form
  have e : (l ++ [(p, q)]).length = l.length + 1 := by simp
  rw [e] at h2 h3 ⊢
  exact hK A c w' h2 h3
section
variable (l : List Nd) (A : Option Addr) (cap B : Nat) (s : ByteArray) (w : World)
def hits_allRes (l : List Nd) (s : ByteArray) (w : World) (e : Ending) (w' : World) : Prop := ∃ v, e = .returned v ∧ OH w' (w.heap.size + 1) v (hitsT l s.data.toList) ∧ Below w.heap.size w w'
set_option maxRecDepth 100000 in
set_option maxHeartbeats 8000000 in
theorem hits_all (h : NdR w B A cap l) (ht : TreeR l) (hs : s.size ≤ 8192) (hl : ∀ x ∈ l, x.ends.length ≤ 1048576) :
    Calls Try.prog 45 #[.slice A l.length cap, .string s, .int .i64 (-1)] w (hits_allRes l s w) := by
  obtain ⟨W, hW⟩ : ∃ W, w.alloc (.map #[] 0) = W := ⟨_, rfl⟩
  have hB1 : Below w.heap.size w W := by rw [← hW]; exact (Below.refl _ _).alloc (Nat.le_refl _) _
  have hem : EdgeM W w.heap.size 0 (chN l 0) := by rw [← hW, chN_zero]; exact EdgeM.made w
  have HB1 := Lib.hid hB1
  have HEM := Lib.hid hem
  have HR0 := Lib.hid h
  have HT := Lib.hid ht
  have HL := Lib.hid hl
  have hfew := ht.few
  have hcap := h.hc
  have hpos := ht.pos
  unfold maxLen at hcap
  clear h ht hl hB1 hem
  have hmm := @run_makeMap Try.prog
  obtain ⟨x, hx⟩ : ∃ x, l[0]? = some x := ⟨l[0], List.getElem?_eq_getElem (by omega)⟩
  obtain ⟨ad, rfl⟩ : ∃ ad, A = some ad := ⟨_, (HR0.out.at_ hx).choose_spec.1⟩
  clear hx x
  have d3 : (0 : Int) < (l.length : Int) := by omega
  go_enter Try.func45, Try.ntmps45
  go_wp2_with fail
  go_loopw [20] (fun u wr => ∃ k : Nat, u = .int .i64 (k : Int) ∧ k ≤ l.length ∧ Below w.heap.size w wr ∧ EdgeM wr w.heap.size k (chN l k)) (fun u _ => l.length - (intOf u).toNat)
  case atStart => exact ⟨0, rfl, by omega, HB1.out, HEM.out⟩
  case round =>
    obtain ⟨k, rfl, hk, hB, hE⟩ := hrel
    clear HEM HB1 hW
    have HB := Lib.hid hB
    have HE := Lib.hid hE
    have hwl := hE.lt
    have hR := HR0.out.kept hB
    by_cases hlk : k < l.length
    · obtain ⟨x, hx⟩ : ∃ x, l[k]? = some x := ⟨l[k], List.getElem?_eq_getElem hlk⟩
      obtain ⟨ad', e', hbk', x0, x1, x2, x3⟩ := hR.at_ hx
      obtain rfl : ad = ad' := by cases e'; rfl
      have hok := hR.ok x (List.mem_of_getElem? hx)
      have i1 : (k : Int) < (l.length : Int) := by omega
      have i3 : IntKind.i64.wrap ((k : Int) + 1) = (k : Int) + 1 := IntWalk.i64_in _ (by omega)
      obtain ⟨V, hV⟩ : ∃ V, V = wr.alloc (.cells #[.int .u8 x.b, .int .i64 x.up, .int .i64 x.fail, .slice x.E x.ends.length x.ce] 86) := ⟨_, rfl⟩
      have hVb : Below wr.heap.size wr V := by rw [hV]; exact (Below.refl _ _).alloc (Nat.le_refl _) _
      have hVk : Blk V wr.heap.size 86 #[.int .u8 x.b, .int .i64 x.up, .int .i64 x.fail, .slice x.E x.ends.length x.ce] := by rw [hV]; exact Blk.new _ _ _
      have HV := Lib.hid hV
      have HBV := Lib.hid (hB.trans (hVb.mono hB.size))
      have HEV := Lib.hid (hE.kept hVb)
      have k0 : V.cell? ⟨wr.heap.size, 0, none⟩ = some (.int .u8 x.b) := hVk.cell 0
      have k1 : V.cell? ⟨wr.heap.size, 1, none⟩ = some (.int .i64 x.up) := hVk.cell 1
      have HUp := Lib.hid hok.up
      have HBw := Lib.hid hok.b
      have HX := Lib.hid hx
      clear hx hok hVb hVk hV hR e' hB hE
      by_cases hk0 : 0 < k
      · have e0 : (0 : Int) < (k : Int) := by omega
        have hVV := HV.out.symm
        go_wp2_with (first | (at_mapUpdate; refine EdgeM.put HEV.out (by unfold maxLen; omega) rfl _ _ _ rfl rfl _ _ _ rfl rfl HUp.out HBw.out (wf_nat (by omega)) ?_; intro w2 hem hgr) | fail)
        have HE2 : Hid (EdgeM w2 w.heap.size (k + 1) (chN l (k + 1))) := by show EdgeM _ _ _ _; rw [chN_put HX.out hk0]; exact hem
        have HB2 := Lib.hid (HBV.out.grown hgr HBV.out.size (fun b hb => by cases hb; omega))
        clear hem hgr
        go_wp2_with fail
        go_roundw
        case rel => exact ⟨k + 1, by go_num, by omega, HB2.out, HE2.out⟩
        case measure => simp [intOf]; omega
      · have e0 : ¬ (0 : Int) < (k : Int) := by omega
        have HE2 : Hid (EdgeM V w.heap.size (k + 1) (chN l (k + 1))) := by
          have e : k = 0 := by omega
          have h := HEV.out
          show EdgeM _ _ _ _
          rw [e] at h ⊢
          rw [chN_one]
          obtain ⟨D, q1, q2⟩ := h
          exact ⟨D, q1.mono (by omega), q2⟩
        have HK := Lib.hid hk0
        clear hk0
        go_wp2_with fail
        rw [← HV.out]
        go_wp2_with fail
        go_roundw
        case rel => exact ⟨k + 1, by go_num, by omega, HBV.out, HE2.out⟩
        case measure => simp [intOf]; omega
    · obtain rfl : k = l.length := by omega
      have HS0 : Hid (HSt w wr l (.slice none 0 0) []) := ⟨hB, hE, OH.nil _ _⟩
      clear hlk hB hE hR HB HE
      go_wp2_with fail
      obtain ⟨wm, rfl⟩ : ∃ wm : World, wm = wr := ⟨_, rfl⟩
      go_loopw [10, 11, 37] (fun o a u wr => ∃ (i at_ : Nat) (L : List (Int × Int)) , u = .int .i64 (i : Int) ∧ i ≤ s.size ∧ a = .int .i64 (at_ : Int) ∧ at_ < l.length ∧ HSt w wr l o L ∧ Hid (hitK l s.data.toList i = (at_, L))) (fun _ _ u _ => s.size - (intOf u).toNat)
      case atStart => exact ⟨0, 0, [], rfl, by omega, rfl, by omega, HS0.out, rfl⟩
      case round =>
        obtain ⟨i, at_, L, rfl, hi, rfl, hat, hS, HH⟩ := hrel
        clear HS0
        have HS := Lib.hid hS
        have hsz := hS.sz
        obtain ⟨Ao, co, ho⟩ := hS.oh.form
        subst ho
        have hLl : L.length ≤ 8589934592 := by
          have h1 := hitK_len HL.out s.data.toList i
          rw [HH.out] at h1
          have h2 : i * 1048576 ≤ 8192 * 1048576 := Nat.mul_le_mul_right _ (by omega)
          exact Nat.le_trans h1 (Nat.le_trans h2 (by decide))
        by_cases hli : i < s.size
        · have i1 : (i : Int) < (s.size : Int) := by omega
          have hb : s.data.toList[i]? = some s[i] := by
            rw [List.getElem?_eq_getElem (by rw [lst_len]; exact hli)]; rfl
          obtain ⟨r0, hr0⟩ : ∃ r, chN l l.length (at_ : Int) (s[i].toNat : Int) = r := ⟨_, rfl⟩
          have HC0 := Lib.hid hr0
          have HBb := Lib.hid hb
          clear hS hr0 hb
          go_wp2_with (first | (at_lookup; refine EdgeM.look HS.out.em rfl _ _ rfl rfl _ _ rfl (wf_nat (by omega)) (wf_byte _) r0 HC0.out ?_) | fail)
          go_loop [11, 13, 14] (fun a n k => ∃ (at' : Nat) (r : Option Nat), a = .int .i64 (at' : Int) ∧ n = .int .i64 ((r.getD 0 : Nat) : Int) ∧ k = .bool r.isSome ∧ at' < l.length ∧ Hid (chN l l.length (at' : Int) (s[i].toNat : Int) = r) ∧ Hid (stepN l (s[i].toNat : Int) at' = stepN l (s[i].toNat : Int) at_)) (fun a _ _ => (intOf a).toNat)
          case atStart => exact ⟨at_, r0, rfl, rfl, rfl, hat, HC0.out, rfl⟩
          case round =>
            obtain ⟨at', r, rfl, rfl, rfl, hat', HC, HG⟩ := hrel
            clear HC0
            cases r with
            | none =>
              by_cases h0 : 0 < at'
              · have a0 : (0 : Int) < (at' : Int) := by omega
                obtain ⟨x, hx⟩ : ∃ x, l[at']? = some x := ⟨l[at'], List.getElem?_eq_getElem hat'⟩
                obtain ⟨ad', e', _, x0, x1, x2, x3⟩ := (HR0.out.kept HS.out.be).at_ hx
                obtain rfl : ad = ad' := by cases e'; rfl
                obtain ⟨f1, f2⟩ := HT.out.failN hx h0
                rw [f1] at x2
                have a1 : (at' : Int) < (l.length : Int) := by omega
                obtain ⟨r2, hr2⟩ : ∃ r, chN l l.length ((failN l at' : Nat) : Int) (s[i].toNat : Int) = r := ⟨_, rfl⟩
                have HC2 := Lib.hid hr2
                have HG2 : Hid (stepN l (s[i].toNat : Int) (failN l at') = stepN l (s[i].toNat : Int) at_) := by
                  show _ = _
                  rw [← HG.out]; unfold stepN; exact (goT_fail HC.out h0 f2).symm
                obtain ⟨F, hF⟩ : ∃ F, F = failN l at' := ⟨_, rfl⟩
                rw [← hF] at x2 HC2 HG2 f2
                clear e' hx hr2 f1 hF h0
                go_wp2_with (first | (at_lookup; refine EdgeM.look HS.out.em rfl _ _ rfl rfl _ _ rfl (wf_nat (by omega)) (wf_byte _) r2 HC2.out ?_) | fail)
                go_round
                case rel => exact ⟨F, r2, rfl, rfl, rfl, by omega, HC2.out, HG2.out⟩
                case measure => simp [intOf]; omega
              · have a0 : ¬ (0 : Int) < (at' : Int) := by omega
                have HN : Hid (hitK l s.data.toList (i + 1) = (at', L)) := by
                  refine hitK_no HH.out HBb.out ?_
                  rw [← HG.out]
                  unfold stepN
                  have e : at' = 0 := by omega
                  have h := HC.out
                  rw [e] at h ⊢
                  exact goT_zero h
                have HA := Lib.hid h0
                clear h0
                go_wp2_with fail
                go_roundw
                case rel => exact ⟨i + 1, at', L, by go_num, by omega, rfl, hat', HS.out, HN⟩
                case measure => simp [intOf]; omega
            | some q =>
              have hq := chN_some HC.out
              obtain ⟨x, hx⟩ : ∃ x, l[q]? = some x := ⟨l[q], List.getElem?_eq_getElem hq.2.1⟩
              have hql := hq.2.1
              obtain ⟨ad', e', _, x0, x1, x2, x3⟩ := (HR0.out.kept HS.out.be).at_ hx
              obtain rfl : ad = ad' := by cases e'; rfl
              have hle := HL.out x (List.mem_of_getElem? hx)
              have hce := ((HR0.out.kept HS.out.be).ok x (List.mem_of_getElem? hx)).ce
              unfold maxLen at hce
              have a1 : (q : Int) < (l.length : Int) := by omega
              have HX := Lib.hid hx
              have HN : Hid (hitK l s.data.toList (i + 1) = (q, L ++ x.ends.map fun e => (e, (i : Int) + 1))) := by
                have := hitK_yes (k := q) HH.out HBb.out (by rw [← HG.out]; unfold stepN; exact goT_some HC.out)
                rw [endsN_at hx] at this
                exact this
              clear e' hx hq
              go_wp2_with fail
              obtain ⟨wm2, rfl⟩ : ∃ wm : World, wm = wr := ⟨_, rfl⟩
              go_loopw [10, 79] (fun o u wr => ∃ (j : Nat) (L2 : List (Int × Int)), u = .int .i64 (j : Int) ∧ j ≤ x.ends.length ∧ HSt w wr l o L2 ∧ Hid (L2 = L ++ (x.ends.take j).map fun e => (e, (i : Int) + 1))) (fun _ u _ => x.ends.length - (intOf u).toNat)
              case atStart => exact ⟨0, L, rfl, by omega, HS.out, by show _ = _; simp⟩
              case round =>
                obtain ⟨j, L2, rfl, hj, hS2, HL2⟩ := hrel
                have HS2 := Lib.hid hS2
                have hsz2 := hS2.sz
                obtain ⟨Ao2, co2, ho2⟩ := hS2.oh.form
                subst ho2
                by_cases hlj : j < x.ends.length
                · have j1 : (j : Int) < (x.ends.length : Int) := by omega
                  obtain ⟨ed, hed, _, z0⟩ := (HR0.out.kept hS2.be).end_ HX.out hlj
                  obtain ⟨E, hEE⟩ : ∃ E, E = x.ends[j] := ⟨_, rfl⟩
                  have HL3 : Hid (L2 ++ [(E, (i : Int) + 1)] = L ++ (x.ends.take (j + 1)).map fun e => (e, (i : Int) + 1)) := by
                    show _ = _
                    rw [HL2.out, show x.ends.take (j + 1) = x.ends.take j ++ [x.ends[j]] from (List.take_append_getElem hlj).symm, List.map_append, hEE, List.append_assoc]; rfl
                  rw [← hEE] at z0
                  have hl2 : L2.length ≤ 8589934592 := by
                    have h1 : L2.length ≤ L.length + 1048576 := by rw [HL2.out, List.length_append, List.length_map, List.length_take]; omega
                    have h2 := hitK_len HL.out s.data.toList i
                    rw [HH.out] at h2
                    have h3 : i * 1048576 ≤ 8191 * 1048576 := Nat.mul_le_mul_right _ (by omega)
                    exact Nat.le_trans h1 (Nat.le_trans (Nat.add_le_add_right (Nat.le_trans h2 h3) _) (by decide))
                  have n1 : (((L2.length : Nat) : Int) + 1 == -1) = false := by rw [beq_eq_false_iff_ne]; omega
                  have i3 : IntKind.i64.wrap ((i : Int) + 1) = (i : Int) + 1 := IntWalk.i64_in _ (by omega)
                  rw [hed] at x3
                  rw [hed] at *
                  clear hS2 hEE hed
                  go_wp2_with (first | (at_builtin; refine wpL_appH' rfl (.tmp 83) (.tmp 88) rfl HS2.out.oh rfl E ((i : Int) + 1) rfl rfl L2.length rfl hl2 hsz2 ?_; intro A3 c3 w3 h3 g3) | fail)
                  have HS3 := Lib.hid (HS2.out.app h3 g3)
                  clear h3 g3
                  go_wp2_with fail
                  go_roundw
                  case rel => exact ⟨j + 1, _, by go_num, by omega, HS3.out, HL3⟩
                  case measure => simp [intOf]; omega
                · obtain rfl : j = x.ends.length := by omega
                  have HN2 : Hid (hitK l s.data.toList (i + 1) = (q, L2)) := by
                    show _ = _
                    rw [HN.out, HL2.out, List.take_length]
                  clear hlj hS2
                  go_wp2_with fail
                  go_roundw
                  case rel => exact ⟨i + 1, q, L2, by go_num, by omega, rfl, hql, HS2.out, HN2⟩
                  case measure => simp [intOf]; omega
        · obtain rfl : i = s.size := by omega
          have HF : Hid (hitsT l s.data.toList = L) := by
            show _ = _
            unfold hitsT
            rw [lst_len, HH.out]
          clear hli hS
          go_wp2_with fail
          go_ret
          exact ⟨_, rfl, by rw [HF.out]; exact HS.out.oh, HS.out.be⟩
def hits_oneRes (l : List Nd) (s : ByteArray) (w : World) (e : Ending) (w' : World) : Prop := ∃ A1 n c1, e = .returned (.slice A1 n c1) ∧ (0 < n ↔ hitsT l s.data.toList ≠ []) ∧ n ≤ 1 ∧ Below w.heap.size w w'
set_option maxRecDepth 100000 in
set_option maxHeartbeats 8000000 in
theorem hits_one (h : NdR w B A cap l) (ht : TreeR l) (hs : s.size ≤ 8192) (hl : ∀ x ∈ l, x.ends.length ≤ 1048576) :
    Calls Try.prog 45 #[.slice A l.length cap, .string s, .int .i64 (1)] w (hits_oneRes l s w) := by
  obtain ⟨W, hW⟩ : ∃ W, w.alloc (.map #[] 0) = W := ⟨_, rfl⟩
  have hB1 : Below w.heap.size w W := by rw [← hW]; exact (Below.refl _ _).alloc (Nat.le_refl _) _
  have hem : EdgeM W w.heap.size 0 (chN l 0) := by rw [← hW, chN_zero]; exact EdgeM.made w
  have HB1 := Lib.hid hB1
  have HEM := Lib.hid hem
  have HR0 := Lib.hid h
  have HT := Lib.hid ht
  have HL := Lib.hid hl
  have hfew := ht.few
  have hcap := h.hc
  have hpos := ht.pos
  unfold maxLen at hcap
  clear h ht hl hB1 hem
  have hmm := @run_makeMap Try.prog
  obtain ⟨x, hx⟩ : ∃ x, l[0]? = some x := ⟨l[0], List.getElem?_eq_getElem (by omega)⟩
  obtain ⟨ad, rfl⟩ : ∃ ad, A = some ad := ⟨_, (HR0.out.at_ hx).choose_spec.1⟩
  clear hx x
  have d3 : (0 : Int) < (l.length : Int) := by omega
  go_enter Try.func45, Try.ntmps45
  go_wp2_with fail
  go_loopw [20] (fun u wr => ∃ k : Nat, u = .int .i64 (k : Int) ∧ k ≤ l.length ∧ Below w.heap.size w wr ∧ EdgeM wr w.heap.size k (chN l k)) (fun u _ => l.length - (intOf u).toNat)
  case atStart => exact ⟨0, rfl, by omega, HB1.out, HEM.out⟩
  case round =>
    obtain ⟨k, rfl, hk, hB, hE⟩ := hrel
    clear HEM HB1 hW
    have HB := Lib.hid hB
    have HE := Lib.hid hE
    have hwl := hE.lt
    have hR := HR0.out.kept hB
    by_cases hlk : k < l.length
    · obtain ⟨x, hx⟩ : ∃ x, l[k]? = some x := ⟨l[k], List.getElem?_eq_getElem hlk⟩
      obtain ⟨ad', e', hbk', x0, x1, x2, x3⟩ := hR.at_ hx
      obtain rfl : ad = ad' := by cases e'; rfl
      have hok := hR.ok x (List.mem_of_getElem? hx)
      have i1 : (k : Int) < (l.length : Int) := by omega
      have i3 : IntKind.i64.wrap ((k : Int) + 1) = (k : Int) + 1 := IntWalk.i64_in _ (by omega)
      obtain ⟨V, hV⟩ : ∃ V, V = wr.alloc (.cells #[.int .u8 x.b, .int .i64 x.up, .int .i64 x.fail, .slice x.E x.ends.length x.ce] 86) := ⟨_, rfl⟩
      have hVb : Below wr.heap.size wr V := by rw [hV]; exact (Below.refl _ _).alloc (Nat.le_refl _) _
      have hVk : Blk V wr.heap.size 86 #[.int .u8 x.b, .int .i64 x.up, .int .i64 x.fail, .slice x.E x.ends.length x.ce] := by rw [hV]; exact Blk.new _ _ _
      have HV := Lib.hid hV
      have HBV := Lib.hid (hB.trans (hVb.mono hB.size))
      have HEV := Lib.hid (hE.kept hVb)
      have k0 : V.cell? ⟨wr.heap.size, 0, none⟩ = some (.int .u8 x.b) := hVk.cell 0
      have k1 : V.cell? ⟨wr.heap.size, 1, none⟩ = some (.int .i64 x.up) := hVk.cell 1
      have HUp := Lib.hid hok.up
      have HBw := Lib.hid hok.b
      have HX := Lib.hid hx
      clear hx hok hVb hVk hV hR e' hB hE
      by_cases hk0 : 0 < k
      · have e0 : (0 : Int) < (k : Int) := by omega
        have hVV := HV.out.symm
        go_wp2_with (first | (at_mapUpdate; refine EdgeM.put HEV.out (by unfold maxLen; omega) rfl _ _ _ rfl rfl _ _ _ rfl rfl HUp.out HBw.out (wf_nat (by omega)) ?_; intro w2 hem hgr) | fail)
        have HE2 : Hid (EdgeM w2 w.heap.size (k + 1) (chN l (k + 1))) := by show EdgeM _ _ _ _; rw [chN_put HX.out hk0]; exact hem
        have HB2 := Lib.hid (HBV.out.grown hgr HBV.out.size (fun b hb => by cases hb; omega))
        clear hem hgr
        go_wp2_with fail
        go_roundw
        case rel => exact ⟨k + 1, by go_num, by omega, HB2.out, HE2.out⟩
        case measure => simp [intOf]; omega
      · have e0 : ¬ (0 : Int) < (k : Int) := by omega
        have HE2 : Hid (EdgeM V w.heap.size (k + 1) (chN l (k + 1))) := by
          have e : k = 0 := by omega
          have h := HEV.out
          show EdgeM _ _ _ _
          rw [e] at h ⊢
          rw [chN_one]
          obtain ⟨D, q1, q2⟩ := h
          exact ⟨D, q1.mono (by omega), q2⟩
        have HK := Lib.hid hk0
        clear hk0
        go_wp2_with fail
        rw [← HV.out]
        go_wp2_with fail
        go_roundw
        case rel => exact ⟨k + 1, by go_num, by omega, HBV.out, HE2.out⟩
        case measure => simp [intOf]; omega
    · obtain rfl : k = l.length := by omega
      have HS0 : Hid (HSt w wr l (.slice none 0 0) []) := ⟨hB, hE, OH.nil _ _⟩
      clear hlk hB hE hR HB HE
      go_wp2_with fail
      obtain ⟨wm, rfl⟩ : ∃ wm : World, wm = wr := ⟨_, rfl⟩
      go_loopw [10, 11, 37] (fun o a u wr => ∃ (i at_ : Nat) , u = .int .i64 (i : Int) ∧ i ≤ s.size ∧ a = .int .i64 (at_ : Int) ∧ at_ < l.length ∧ HSt w wr l o [] ∧ Hid (hitK l s.data.toList i = (at_, []))) (fun _ _ u _ => s.size - (intOf u).toNat)
      case atStart => exact ⟨0, 0, rfl, by omega, rfl, by omega, HS0.out, rfl⟩
      case round =>
        obtain ⟨i, at_, rfl, hi, rfl, hat, hS, HH⟩ := hrel
        clear HS0
        have HS := Lib.hid hS
        have hsz := hS.sz
        obtain ⟨Ao, co, ho⟩ := hS.oh.form
        subst ho
        by_cases hli : i < s.size
        · have i1 : (i : Int) < (s.size : Int) := by omega
          have hb : s.data.toList[i]? = some s[i] := by
            rw [List.getElem?_eq_getElem (by rw [lst_len]; exact hli)]; rfl
          obtain ⟨r0, hr0⟩ : ∃ r, chN l l.length (at_ : Int) (s[i].toNat : Int) = r := ⟨_, rfl⟩
          have HC0 := Lib.hid hr0
          have HBb := Lib.hid hb
          clear hS hr0 hb
          go_wp2_with (first | (at_lookup; refine EdgeM.look HS.out.em rfl _ _ rfl rfl _ _ rfl (wf_nat (by omega)) (wf_byte _) r0 HC0.out ?_) | fail)
          go_loop [11, 13, 14] (fun a n k => ∃ (at' : Nat) (r : Option Nat), a = .int .i64 (at' : Int) ∧ n = .int .i64 ((r.getD 0 : Nat) : Int) ∧ k = .bool r.isSome ∧ at' < l.length ∧ Hid (chN l l.length (at' : Int) (s[i].toNat : Int) = r) ∧ Hid (stepN l (s[i].toNat : Int) at' = stepN l (s[i].toNat : Int) at_)) (fun a _ _ => (intOf a).toNat)
          case atStart => exact ⟨at_, r0, rfl, rfl, rfl, hat, HC0.out, rfl⟩
          case round =>
            obtain ⟨at', r, rfl, rfl, rfl, hat', HC, HG⟩ := hrel
            clear HC0
            cases r with
            | none =>
              by_cases h0 : 0 < at'
              · have a0 : (0 : Int) < (at' : Int) := by omega
                obtain ⟨x, hx⟩ : ∃ x, l[at']? = some x := ⟨l[at'], List.getElem?_eq_getElem hat'⟩
                obtain ⟨ad', e', _, x0, x1, x2, x3⟩ := (HR0.out.kept HS.out.be).at_ hx
                obtain rfl : ad = ad' := by cases e'; rfl
                obtain ⟨f1, f2⟩ := HT.out.failN hx h0
                rw [f1] at x2
                have a1 : (at' : Int) < (l.length : Int) := by omega
                obtain ⟨r2, hr2⟩ : ∃ r, chN l l.length ((failN l at' : Nat) : Int) (s[i].toNat : Int) = r := ⟨_, rfl⟩
                have HC2 := Lib.hid hr2
                have HG2 : Hid (stepN l (s[i].toNat : Int) (failN l at') = stepN l (s[i].toNat : Int) at_) := by
                  show _ = _
                  rw [← HG.out]; unfold stepN; exact (goT_fail HC.out h0 f2).symm
                obtain ⟨F, hF⟩ : ∃ F, F = failN l at' := ⟨_, rfl⟩
                rw [← hF] at x2 HC2 HG2 f2
                clear e' hx hr2 f1 hF h0
                go_wp2_with (first | (at_lookup; refine EdgeM.look HS.out.em rfl _ _ rfl rfl _ _ rfl (wf_nat (by omega)) (wf_byte _) r2 HC2.out ?_) | fail)
                go_round
                case rel => exact ⟨F, r2, rfl, rfl, rfl, by omega, HC2.out, HG2.out⟩
                case measure => simp [intOf]; omega
              · have a0 : ¬ (0 : Int) < (at' : Int) := by omega
                have HN : Hid (hitK l s.data.toList (i + 1) = (at', [])) := by
                  refine hitK_no HH.out HBb.out ?_
                  rw [← HG.out]
                  unfold stepN
                  have e : at' = 0 := by omega
                  have h := HC.out
                  rw [e] at h ⊢
                  exact goT_zero h
                have HA := Lib.hid h0
                clear h0
                go_wp2_with fail
                go_roundw
                case rel => exact ⟨i + 1, at', by go_num, by omega, rfl, hat', HS.out, HN⟩
                case measure => simp [intOf]; omega
            | some q =>
              have hq := chN_some HC.out
              obtain ⟨x, hx⟩ : ∃ x, l[q]? = some x := ⟨l[q], List.getElem?_eq_getElem hq.2.1⟩
              have hql := hq.2.1
              obtain ⟨ad', e', _, x0, x1, x2, x3⟩ := (HR0.out.kept HS.out.be).at_ hx
              obtain rfl : ad = ad' := by cases e'; rfl
              have hle := HL.out x (List.mem_of_getElem? hx)
              have hce := ((HR0.out.kept HS.out.be).ok x (List.mem_of_getElem? hx)).ce
              unfold maxLen at hce
              have a1 : (q : Int) < (l.length : Int) := by omega
              have HX := Lib.hid hx
              have HN : Hid (hitK l s.data.toList (i + 1) = (q, [] ++ x.ends.map fun e => (e, (i : Int) + 1))) := by
                have := hitK_yes (k := q) HH.out HBb.out (by rw [← HG.out]; unfold stepN; exact goT_some HC.out)
                rw [endsN_at hx] at this
                exact this
              clear e' hx hq
              go_wp2_with fail
              obtain ⟨wm2, rfl⟩ : ∃ wm : World, wm = wr := ⟨_, rfl⟩
              go_loopw [10, 79] (fun o u wr => u = .int .i64 0 ∧ HSt w wr l o []) (fun _ u _ => 0)
              case atStart => exact ⟨rfl, HS.out⟩
              case round =>
                obtain ⟨rfl, hS2⟩ := hrel
                have HS2 := Lib.hid hS2
                have hsz2 := hS2.sz
                obtain ⟨Ao2, co2, ho2⟩ := hS2.oh.form
                subst ho2
                by_cases hlj : 0 < x.ends.length
                · have j1 : (0 : Int) < (x.ends.length : Int) := by omega
                  obtain ⟨ed, hed, _, z0⟩ := (HR0.out.kept hS2.be).end_ HX.out hlj
                  rw [show ed.add 0 = ed from by unfold Addr.add; simp] at z0
                  obtain ⟨E, hEE⟩ : ∃ E, E = x.ends[0] := ⟨_, rfl⟩
                  rw [← hEE] at z0
                  have HF : Hid (hitsT l s.data.toList ≠ []) := by
                    refine hitsT_more (i := i + 1) (by rw [lst_len]; omega) ?_
                    rw [HN.out]
                    intro h
                    have := congrArg List.length h
                    simp at this
                    rw [this] at hlj; exact absurd hlj (by simp)
                  have i3 : IntKind.i64.wrap ((i : Int) + 1) = (i : Int) + 1 := IntWalk.i64_in _ (by omega)
                  rw [hed] at *
                  clear hS2 hEE hed
                  go_wp2_with (first | (at_builtin; refine wpL_appH' rfl (.tmp 83) (.tmp 88) rfl HS2.out.oh rfl E ((i : Int) + 1) rfl rfl 0 rfl (by omega) hsz2 ?_; intro A3 c3 w3 h3 g3) | fail)
                  have HS3 := Lib.hid (HS2.out.app h3 g3)
                  clear h3 g3
                  go_wp2_with fail
                  go_ret
                  exact ⟨_, _, _, rfl, by simp [HF.out], by omega, HS3.out.be⟩
                · have HN2 : Hid (hitK l s.data.toList (i + 1) = (q, [])) := by
                    show _ = _
                    have e : x.ends = [] := List.eq_nil_of_length_eq_zero (by omega)
                    rw [HN.out, e]; rfl
                  have j1 : ¬ (0 : Int) < (x.ends.length : Int) := by omega
                  clear hlj hS2
                  go_wp2_with fail
                  go_roundw
                  case rel => exact ⟨i + 1, q, by go_num, by omega, rfl, hql, HS2.out, HN2⟩
                  case measure => simp [intOf]; omega
        · obtain rfl : i = s.size := by omega
          have HF : Hid (hitsT l s.data.toList = []) := by
            show _ = _
            unfold hitsT
            rw [lst_len, HH.out]
          clear hli hS
          go_wp2_with fail
          go_ret
          exact ⟨_, _, _, rfl, by rw [HF.out]; simp, by simp, HS.out.be⟩
end
end Go.Proofs.Ytckinkapbfaceaa
