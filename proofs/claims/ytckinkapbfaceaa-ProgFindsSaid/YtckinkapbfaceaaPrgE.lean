/- Walk: (*prog.threads).add. -/
import Derived.Test.YtckinkapbfaceaaPrgD
import Derived.Deep.LoopGhost
namespace Go.Proofs.Ytckinkapbfaceaa
open Go.RowKit
set_option linter.unusedVariables false
set_option linter.unusedSimpArgs false

theorem suc_two {l : List In} {m a t : Nat} {x : In} (hx : l[t]? = some x) (h : x.k = 2) : suc l m a t = [x.b.toNat, x.a.toNat] := by unfold suc; rw [hx]; dsimp only; rw [if_pos h]
theorem suc_jump {l : List In} {m a t : Nat} {x : In} (hx : l[t]? = some x) (h : x.k = 3) : suc l m a t = [x.a.toNat] := by unfold suc; rw [hx]; dsimp only; rw [if_neg (by omega), if_pos h]
theorem suc_next {l : List In} {m a t : Nat} {x : In} (hx : l[t]? = some x) (h : (x.k = 4 ∧ a = 0) ∨ (x.k = 5 ∧ a = m)) : suc l m a t = [t + 1] := by unfold suc; rw [hx]; dsimp only; rw [if_neg (by omega), if_neg (by omega), if_pos h]
theorem suc_none {l : List In} {m a t : Nat} {x : In} (hx : l[t]? = some x) (h2 : x.k ≠ 2) (h3 : x.k ≠ 3) (h : ¬ ((x.k = 4 ∧ a = 0) ∨ (x.k = 5 ∧ a = m))) : suc l m a t = [] := by unfold suc; rw [hx]; dsimp only; rw [if_neg h2, if_neg h3, if_neg h]

/-- the kinds, with what each test answers -/
theorem kinds {l : List In} {m a t : Nat} {x : In} (hr : RightP l) (hx : l[t]? = some x) :
    (x.k = 2 ∧ ∃ b' a' : Nat, x.b = (b' : Int) ∧ x.a = (a' : Int) ∧ suc l m a t = [b', a']) ∨ (x.k = 3 ∧ ∃ a' : Nat, x.a = (a' : Int) ∧ suc l m a t = [a']) ∨ (x.k = 4 ∧ ((a : Int) == 0) = true ∧ suc l m a t = [t + 1]) ∨ (x.k = 5 ∧ ((a : Int) == (m : Int)) = true ∧ suc l m a t = [t + 1]) ∨
    (x.k = 4 ∧ ((a : Int) == 0) = false ∧ suc l m a t = []) ∨ (x.k = 5 ∧ ((a : Int) == (m : Int)) = false ∧ suc l m a t = []) ∨ (x.k = 1 ∧ suc l m a t = []) ∨ (x.k = 6 ∧ suc l m a t = []) := by
  have h := hr t x hx
  unfold RightI There at h
  simp only [beq_iff_eq, beq_eq_false_iff_ne]
  rcases h with ⟨h1, h2, h3⟩ | ⟨h1, h2⟩ | ⟨h1 | h1 | h1, h2⟩ | h1
  · exact .inl ⟨h1, x.b.toNat, x.a.toNat, by omega, by omega, suc_two hx h1⟩
  · exact .inr (.inl ⟨h1, x.a.toNat, by omega, suc_jump hx h1⟩)
  · exact .inr (.inr (.inr (.inr (.inr (.inr (.inl ⟨h1, suc_none hx (by omega) (by omega) (by omega)⟩))))))
  · by_cases e : a = 0
    · exact .inr (.inr (.inl ⟨h1, by omega, suc_next hx (by omega)⟩))
    · exact .inr (.inr (.inr (.inr (.inl ⟨h1, by omega, suc_none hx (by omega) (by omega) (by omega)⟩))))
  · by_cases e : a = m
    · exact .inr (.inr (.inr (.inl ⟨h1, by omega, suc_next hx (by omega)⟩)))
    · exact .inr (.inr (.inr (.inr (.inr (.inl ⟨h1, by omega, suc_none hx (by omega) (by omega) (by omega)⟩)))))
  · exact .inr (.inr (.inr (.inr (.inr (.inr (.inr ⟨h1, suc_none hx (by omega) (by omega) (by omega)⟩))))))
def AddRes (l : List In) (A : Option Addr) (c : Nat) (s : ByteArray) (fb n a fr : Nat) (F : Nat → Nat) (L : List Nat) (w : World) (e : Ending) (w' : World) : Prop :=
  e = .returned (.tuple #[]) ∧ ∃ F' lv' L', Thr w' fb l.length A c s F' lv' L' ∧ AddSt l s.size a n (fr + 1) F L F' L' [] ∧ L'.length + unm F' l.length ≤ l.length ∧ Below fb w w'
section
variable (l : List In) (A : Option Addr) (c B : Nat) (s : ByteArray) (fb n a fr : Nat) (F : Nat → Nat) (lv : Value) (L : List Nat) (w : World)
set_option maxRecDepth 100000 in
set_option maxHeartbeats 8000000 in
theorem add_any (hr : RightP l) (h4 : l.length ≤ 400) (hp : InR w B A c l) (hB : B ≤ fb) (hth : Thr w fb l.length A c s F lv L) (hn : n < l.length) (hclo : Clo l s.size a F) (hle : ∀ p, F p ≤ fr + 1) (hcnt : L.length + unm F l.length ≤ l.length) (ha : a ≤ 8193) (hfr : fr ≤ 8193) (hs : s.size ≤ 8192) :
    Calls Try.prog 78 #[.pointer (some ⟨fb + 1, 0, none⟩), .int .i64 (n : Int), .int .i64 (a : Int), .int .i64 (fr : Int)] w (AddRes l A c s fb n a fr F L w) := by
  have HP := Lib.hid hp
  have HR := Lib.hid hr
  have HA0 := Lib.hid (AdW.start hth n)
  have HS0 : Hid (AddSt l s.size a n (fr + 1) F L F L [n]) := AddSt.start hn hclo hle
  have HC := Lib.hid hcnt
  clear hp hr hth hclo hle hcnt
  go_enter Try.func78, Try.ntmps78
  go_wp2_with fail
  go_loopg [8] (3 * unm F l.length + 1) (fun q u wr => ∃ (F' : Nat → Nat) (lv' : Value) (L' : List Nat) (T : List Nat), AdW w wr fb l.length A c s F' lv' L' u T ∧ Hid (AddSt l s.size a n (fr + 1) F L F' L' T) ∧ Hid (q = 3 * unm F' l.length + T.length ∧ L'.length + unm F' l.length ≤ l.length ∧ q ≤ 3 * l.length + 1))
  case atStart => exact ⟨F, lv, L, [n], HA0.out, HS0, rfl, HC.out, by have := HC.out; omega⟩
  case round =>
    obtain ⟨F', lv', L', T, hA, HS, HQ⟩ := hrel
    rcases List.eq_nil_or_concat T with rfl | ⟨T0, t, rfl⟩
    · obtain ⟨A', c', e1⟩ := hA.to.form
      rw [nl_len] at e1
      subst e1
      have HF : Hid (AddRes l A c s fb n a fr F L w (.returned (.tuple #[])) wr) := ⟨rfl, F', lv', L', hA.th, HS.out, HQ.out.2.1, hA.be⟩
      clear hA HQ
      go_wp2_with fail
      go_end0
      exact HF.out
    · rw [List.concat_eq_append] at hA HS HQ
      obtain ⟨g, c2, rfl, hgc, hcm⟩ := hA.to.formAt (by simp)
      have hlen : (T0 ++ [t]).length = T0.length + 1 := by simp
      rw [hlen] at hA hgc ⊢
      have y0 : wr.cell? ⟨g, T0.length, none⟩ = some (.int .i64 (t : Int)) := by
        have := hA.to.at_ (k := T0.length) (by simp)
        rw [this]; simp
      have htl : t < l.length := (HS.out.todo t (by simp)).2
      obtain ⟨x, hx⟩ : ∃ x, l[t]? = some x := ⟨l[t], List.getElem?_eq_getElem htl⟩
      have hTl : T0.length ≤ 3000 := by
        obtain ⟨h1, _, h3⟩ := HQ.out
        rw [hlen] at h1; omega
      have i1 : IntKind.i64.wrap (T0.length : Int) = (T0.length : Int) := IntWalk.i64_in _ (by omega)
      have i2 : (t : Int) < (l.length : Int) := by omega
      have i3 : IntKind.i64.wrap ((t : Int) + 1) = (t : Int) + 1 := IntWalk.i64_in _ (by omega)
      have i4 : IntKind.i64.wrap ((fr : Int) + 1) = (fr : Int) + 1 := IntWalk.i64_in _ (by omega)
      have i5 : (T0.length : Int) < (T0.length : Int) + 1 := by omega
      have i6 : (0 : Int) < (T0.length : Int) + 1 := by omega
      have hlk : fb + 1 < wr.heap.size := hA.th.st.lt
      have z0 : wr.cell? ⟨fb + 1, 0, none⟩ = some (.slice A l.length c) := hA.th.st.cell 0
      have z1 : wr.cell? ⟨fb + 1, 1, none⟩ = some (.string s) := hA.th.st.cell 1
      have z2 : wr.cell? ⟨fb + 1, 2, none⟩ = some (.slice (some ⟨fb, 0, none⟩) l.length l.length) := hA.th.st.cell 2
      have y1 : wr.cell? ⟨fb, t, none⟩ = some (.int .i64 (F' t : Int)) := hA.th.row.cell t htl
      by_cases hF : 1 ≤ F' t
      · have d1 : (0 : Int) < (F' t : Int) := by omega
        have HA2 := Lib.hid (hA.pop rfl)
        have HS2 : Hid (AddSt l s.size a n (fr + 1) F L F' L' T0) := HS.out.skip hF
        have HL := Lib.hid hlen
        clear hA HS hx hF hlen
        go_wp2_with fail
        go_roundg (3 * unm F' l.length + T0.length)
        case measure =>
          have h1 := HQ.out.1
          rw [HL.out] at h1
          omega
        case rel => exact ⟨F', lv', L', T0, HA2.out, HS2, rfl, HQ.out.2.1, by
          obtain ⟨h1, h2, h3⟩ := HQ.out
          rw [HL.out] at h1
          omega⟩
      · have d1 : ¬ (0 : Int) < (F' t : Int) := by omega
        have f1 : wr.frozen? ⟨fb, t, none⟩ = false := hA.th.row.frozen t htl
        have hF0 : F' t = 0 := by omega
        obtain ⟨ad, rfl, _⟩ := HP.out.at_ hx
        have HK := Lib.hid (kinds (m := s.size) (a := a) HR.out hx)
        obtain ⟨W1, hW1⟩ : ∃ W1, wr.setCell ⟨fb, t, none⟩ (.int .i64 ((fr : Int) + 1)) = W1 := ⟨_, rfl⟩
        have hA1 := (hA.pop rfl).mark htl (fr + 1)
        rw [Int.natCast_succ, hW1] at hA1
        have HA1 := Lib.hid hA1
        have hlk1 : fb + 1 < W1.heap.size := hA1.th.st.lt
        have z3 : W1.cell? ⟨fb + 1, 3, none⟩ = some lv' := hA1.th.st.cell 3
        obtain ⟨A', c', e1⟩ := hA1.th.lo.form
        rw [nl_len] at e1
        subst e1
        clear hA hA1
        have HSm : Hid (AddSt l s.size a n (fr + 1) F L (put F' t (fr + 1)) (L' ++ [t]) (T0 ++ suc l s.size a t)) := HS.out.mark HR.out (by omega) hF0
        have HQ' := HQ.out
        rw [hlen] at HQ'
        have HMe := Lib.hid (show 3 * unm (put F' t (fr + 1)) l.length + (T0 ++ suc l s.size a t).length < _ from (by rw [List.length_append]; have := unm_put (F := F') (t := t) (v := fr + 1) (n := l.length) hF0 (by omega) htl; have := suc_len l s.size a t; exact Nat.lt_of_lt_of_le (by omega) (Nat.le_of_eq HQ'.1.symm)))
        have HEn : Hid ((L' ++ [t]).length + unm (put F' t (fr + 1)) l.length ≤ l.length ∧ 3 * unm (put F' t (fr + 1)) l.length + (T0 ++ suc l s.size a t).length ≤ 3 * l.length + 1) := by
          rw [List.length_append, List.length_append, List.length_singleton]
          have := unm_put (F := F') (t := t) (v := fr + 1) (n := l.length) hF0 (by omega) htl
          have := suc_len l s.size a t
          have := HQ'.2
          have := HQ'.1
          exact ⟨by omega, by omega⟩
        clear HQ'
        have HU : Hid (unm (put F' t (fr + 1)) l.length + 1 = unm F' l.length ∧ (suc l s.size a t).length ≤ 2) := ⟨unm_put hF0 (by omega) htl, suc_len _ _ _ _⟩
        have HL := Lib.hid hlen
        clear hlen HS
        go_wp2_with (first
          | (at_builtin; refine AdW.wpList rfl (.tmp 47) (.tmp 49) rfl HA1.out rfl t rfl (by have := HQ.out.2.1; omega) ?_; intro A2 c3 w2 z3 f3 hA2; obtain ⟨W2, hW2⟩ : ∃ W2, w2.setCell ⟨fb + 1, 3, none⟩ (.slice A2 (L'.length + 1) c3) = W2 := ⟨_, rfl⟩; rw [hW2] at hA2; have HA2 := Lib.hid hA2; obtain ⟨ad', ea, hbk, x0, x1, x2, x3, x4, x5, x6⟩ := (HP.out.below (hA2.be.mono hB)).at_ hx; cases ea; have q0 : W2.cell? ⟨fb + 1, 0, none⟩ = some (.slice (some ad) l.length c) := hA2.th.st.cell 0; have hlk2 : fb + 1 < W2.heap.size := hA2.th.st.lt; obtain ⟨V, hV⟩ : ∃ V, W2.alloc (.cells #[.int .i64 x.k, .int .i64 x.a, .int .i64 x.b, .int .u64 (x.s.a : Int), .int .u64 (x.s.b : Int), .int .u64 (x.s.c : Int), .int .u64 (x.s.d : Int)] 35) = V := ⟨_, rfl⟩; have hA3 := hA2.kept (w' := V) (by rw [← hV]; exact (Below.refl _ _).alloc (Nat.le_refl _) _); have HA3 := Lib.hid hA3; have q1 : V.cell? ⟨fb + 1, 1, none⟩ = some (.string s) := hA3.th.st.cell 1; have hVk : Blk V W2.heap.size 35 #[.int .i64 x.k, .int .i64 x.a, .int .i64 x.b, .int .u64 (x.s.a : Int), .int .u64 (x.s.b : Int), .int .u64 (x.s.c : Int), .int .u64 (x.s.d : Int)] := (by rw [← hV]; exact Blk.new _ _ _); have v0 : V.cell? ⟨W2.heap.size, 0, none⟩ = some (.int .i64 x.k) := hVk.cell 0; have v1 : V.cell? ⟨W2.heap.size, 1, none⟩ = some (.int .i64 x.a) := hVk.cell 1; have v2 : V.cell? ⟨W2.heap.size, 2, none⟩ = some (.int .i64 x.b) := hVk.cell 2; clear hA2 hA3 hVk; rcases HK.out with ⟨kc, b', a', eb, ea', hsu⟩ | ⟨kc, a', ea', hsu⟩ | ⟨kc, t1, hsu⟩ | ⟨kc, t1, hsu⟩ | ⟨kc, t1, hsu⟩ | ⟨kc, t1, hsu⟩ | ⟨kc, hsu⟩ | ⟨kc, hsu⟩; all_goals (rw [kc] at v0); all_goals (try rw [eb] at v2); all_goals (try rw [ea'] at v1); all_goals (clear kc); all_goals (try clear eb); all_goals (try clear ea'))
          | (at_builtin; refine AdW.wpTodo rfl (.tmp 64) (.tmp 69) rfl HA3.out rfl [.int .i64 (b' : Int), .int .i64 (a' : Int)] [b', a'] rfl 2 2 rfl rfl (by omega) ?_; intro tv4 w4 hA4; rw [← hsu] at hA4; have HA4 := Lib.hid hA4; clear hA4)
          | (at_builtin; refine AdW.wpTodo rfl (.tmp 75) (.tmp 78) rfl HA3.out rfl [.int .i64 (a' : Int)] [a'] rfl 1 1 rfl rfl (by omega) ?_; intro tv4 w4 hA4; rw [← hsu] at hA4; have HA4 := Lib.hid hA4; clear hA4)
          | (at_builtin; refine AdW.wpTodo rfl (.tmp 100) (.tmp 103) rfl HA3.out rfl [.int .i64 ((t : Int) + 1)] [t + 1] rfl 1 1 rfl rfl (by omega) ?_; intro tv4 w4 hA4; rw [← hsu] at hA4; have HA4 := Lib.hid hA4; clear hA4))

        all_goals go_roundg (3 * unm (put F' t (fr + 1)) l.length + (T0 ++ suc l s.size a t).length)
        all_goals first
          | exact HMe.out
          | exact ⟨put F' t (fr + 1), .slice A2 (L'.length + 1) c3, L' ++ [t], T0 ++ suc l s.size a t, HA4.out, HSm, rfl, HEn.out⟩
          | exact ⟨put F' t (fr + 1), .slice A2 (L'.length + 1) c3, L' ++ [t], T0 ++ suc l s.size a t, by rw [hsu, List.append_nil]; exact HA3.out, HSm, rfl, HEn.out⟩
end
end Go.Proofs.Ytckinkapbfaceaa
