/- What rules look at (P40), plainly; append of one list of pairs to another. Walks: args.Query, wickref.QueryOf. -/
import Derived.Test.YtaepbpdcfmklpaaDoorArgC
import Derived.Test.YtaepbpdcfmklpaaDoorHedE
import Derived.Test.YtaepbpdcfmklpaaDoorMulB
import Derived.Test.YtaepbpdcfmklpaaDoorMrdE
namespace Go.Proofs.YtaepbpdcfmklpaaDoor
open Go.RowKit
set_option linter.unusedVariables false
set_option linter.unusedSimpArgs false

theorem wpL_appPP {P : Program} {T t : TypeId} {w : World} {B B2 : Nat} {v u : Value} {l k : List Fd} {ops : Array Oper} {rest : List Oper} {o : Oper} {a : Act} {Q : Exit → Act → World → Prop} (hI : (P.info? t).map (fun i => (i.zero, i.size, i.bytes)) = some (some (.agg #[.string ByteArray.empty, .string ByteArray.empty]), 2, 32)) (hT : P.underlying T = some (.slice t)) (hgd : o.guard = none) (s x : Operand)
    (ho : o.op = .call { callee := .builtin .append, args := #[s, x], argTypes := #[T, T] })
    (h : OP t w B v l) (hs : a.eval s = v) (h2 : OP t w B2 u k) (hx : a.eval x = u) (hlen : l.length + k.length ≤ 1000000000) (hB : B ≤ w.heap.size)
    (hK : ∀ v' w', OP t w' B v' (l ++ k) → w.grownBy w' v.ownBlock → Below B w w' → wpList P ops Q rest (a.put o.dst v') w') :
    wpList P ops Q (o :: rest) a w := by
  obtain ⟨i0, hi0, hz0, hz1, hz2⟩ := info_parts hI
  have key : ∃ v' w', (Builtin.append_ #[T, T] o.type #[v, u]).run P w = .ok v' w' ∧ OP t w' B v' (l ++ k) ∧ w.grownBy w' v.ownBlock ∧ Below B w w' := by
    by_cases h0 : k.length = 0
    · obtain rfl : k = [] := List.eq_nil_of_length_eq_zero h0
      rcases h2.2 with ⟨rfl, _⟩ | ⟨g, cap, cur, rfl, _, _, hnc, _⟩
      · exact ⟨v, w, run_append_owned_none w B T o.type t i0 2 hT hi0 v _ _ h, by rw [List.append_nil]; exact h, World.grownBy.refl _ _, Below.refl _ _⟩
      · obtain ⟨v', w', hr, ho', hg, _⟩ := run_append_own_at (P := P) w B T o.type t i0 _ 2 32 hT hi0 hz0 hz1 hz2 rfl (by decide) v _ _ h ⟨g, 0, none⟩ 0 cap [] rfl (by simp) (by simp) (by unfold maxLen; omega) (by omega) hB
        refine ⟨v', w', by simpa using hr, ?_, hg, (Below.refl _ _).grown hg hB (own_from h)⟩
        rw [List.append_nil]
        rw [List.append_nil, Nat.add_zero] at ho'
        exact ho'
    · obtain ⟨A, c, rfl⟩ := h2.form
      obtain ⟨ad, rfl, _, hc⟩ := (OP.reads h2).2 (by omega)
      obtain ⟨v', w', hr, ho', hg, _⟩ := run_append_own_at (P := P) w B T o.type t i0 _ 2 32 hT hi0 hz0 hz1 hz2 rfl (by decide) v _ _ h ad k.length c (fdFlat k) (fdFlat_len k) hc (by
        intro x hx
        unfold fdFlat at hx
        obtain ⟨f, _, hf⟩ := List.mem_flatMap.1 hx
        simp only [fdCs, List.mem_cons, List.not_mem_nil, or_false] at hf
        rcases hf with rfl | rfl <;> rfl) (by unfold maxLen; omega) (by omega) hB
      refine ⟨v', w', hr, ?_, hg, (Below.refl _ _).grown hg hB (own_from h)⟩
      unfold OP
      rw [List.length_append, fdFlat_app]; exact ho'
  obtain ⟨v', w', hrun, h3, hg, h4⟩ := key
  refine wpList_plain hgd fun _ hK' => ?_
  unfold Oper.wp execOp
  simp only [ho, resolve, invoke, builtin, Sem.run_bind, Sem.run_pure, Result.andThen_ok, List.map_toArray, List.map_cons, List.map_nil, hs, hx, hrun]
  exact hK' _ _ (hK v' w' h3 hg h4)
theorem OP.apart {t : TypeId} {w w' : World} {B : Nat} {u v : Value} {k : List Fd} (h : OP t w B u k) (hl : ∀ g, v.ownBlock = some g → g < B) (hg : w.grownBy w' v.ownBlock) : OP t w' B u k := by
  refine World.ownsRow.kept h hg ?_
  cases hu : u.ownBlock with
  | none => exact .inl rfl
  | some g =>
    right
    intro e
    have h1 := own_from h g hu
    have h2 := hl g e.symm
    omega
/-- what stands behind the question mark -/
def queS (s : ByteArray) : ByteArray := (cutS s ⟨#[63]⟩).2.1
theorem queS_size (s : ByteArray) : (queS s).size ≤ s.size := (cutS_size s ⟨#[63]⟩).2
theorem query_any (s : ByteArray) (w : World) (hs : s.size ≤ 1048576) (m : Int) (hm : w.cell? ⟨0, 0, none⟩ = some (.int .i64 m)) :
    Calls Tryd.prog 20 #[.string s] w fun e w' => e = .returned (.string (queS s)) ∧ Below w.heap.size w w' := by
  have C := Lib.hid (cut_any s ⟨#[63]⟩ m w hs hm)
  obtain ⟨r, hr⟩ : ∃ r, r = (cutS s ⟨#[63]⟩).2.1 := ⟨_, rfl⟩
  rw [← hr] at C
  have HR := Lib.hid (show queS s = r from hr.symm)
  clear hr hm
  go_enter Tryd.func20, Tryd.ntmps20
  go_wp2_with fail
  refine C.out.mono ?_
  rintro e w1 ⟨rfl, q, hw⟩
  have HB : Hid (Below w.heap.size w w1) := Lib.hid (by rw [hw]; exact below_drewN (Below.refl _ _) q)
  clear hw
  go_wp2_with fail
  go_ret
  exact ⟨by rw [HR.out]; rfl, HB.out⟩
theorem rquery_any (s : ByteArray) (w : World) (hs : s.size ≤ 1048576) :
    Calls Tryd.prog 25 #[.string s] w fun e w' => e = .returned (.string (queS s)) ∧ Below w.heap.size w w' := by
  have C := Lib.hid (rsplit_any s ⟨#[63]⟩ w (by omega) (by decide))
  obtain ⟨r, hr⟩ : ∃ r, r = (cutS s ⟨#[63]⟩).2.1 := ⟨_, rfl⟩
  rw [← hr] at C
  have HR := Lib.hid (show queS s = r from hr.symm)
  clear hr
  go_enter Tryd.func25, Tryd.ntmps25
  go_wp2_with fail
  refine C.out.mono ?_
  rintro e w1 ⟨rfl, q, hw⟩
  have HB : Hid (Below w.heap.size w w1) := Lib.hid (by rw [hw]; exact below_drewN (Below.refl _ _) q)
  clear hw
  go_wp2_with fail
  go_ret
  exact ⟨by rw [HR.out]; rfl, HB.out⟩
/-- the values' bulk -/
def sumV (fs : List Fd) : Nat := (fs.map fun f => f.v.size + 1).sum
theorem getL_sum (name : ByteArray) : ∀ fs : List Fd, sumS (getL fs name) ≤ sumV fs
  | [] => Nat.le_refl _
  | f :: fs => by
    have ih := getL_sum name fs
    unfold getL sumS sumV at ih ⊢
    rw [List.filter_cons]
    split
    · rw [List.map_cons, List.map_cons, List.map_cons, List.sum_cons, List.sum_cons]; omega
    · rw [List.map_cons, List.sum_cons]; omega
theorem str_of_own {w : World} {B : Nat} {A : Option Addr} {c : Nat} {l : List ByteArray} (h : OS w B (.slice A l.length c) l) (hs : sumS l ≤ 1048576) : StR w w.heap.size A c l := by
  refine ⟨h.reads, ?_, ?_, hs⟩
  · rcases h.2 with ⟨e, h2⟩ | ⟨g, c', cur, e, _, _, h3, _⟩
    · omega
    · injection e with _ _ e3; subst e3; exact h3
  · rcases h.2 with ⟨e, h2⟩ | ⟨g, c', cur, e, _, _, _, h4, _⟩
    · injection e with _ _ e3; omega
    · injection e with _ _ e3; subst e3; unfold maxLen at h4; omega
def ctB : ByteArray := ⟨#[99, 111, 110, 116, 101, 110, 116, 45, 116, 121, 112, 101]⟩
def ckB : ByteArray := ⟨#[99, 111, 111, 107, 105, 101]⟩
def ueB : ByteArray := ⟨#[97, 112, 112, 108, 105, 99, 97, 116, 105, 111, 110, 47, 120, 45, 119, 119, 119, 45, 102, 111, 114, 109, 45, 117, 114, 108, 101, 110, 99, 111, 100, 101, 100]⟩
theorem ct_up (fs : List Fd) : getL fs ⟨#[67, 111, 110, 116, 101, 110, 116, 45, 84, 121, 112, 101]⟩ = getL fs ctB := by
  unfold getL sameN
  rw [show (⟨#[67, 111, 110, 116, 101, 110, 116, 45, 84, 121, 112, 101]⟩ : ByteArray).data.toList.map lowB = ctB.data.toList.map lowB by decide +kernel]
theorem ck_up (fs : List Fd) : getL fs ⟨#[67, 111, 111, 107, 105, 101]⟩ = getL fs ckB := by
  unfold getL sameN
  rw [show (⟨#[67, 111, 111, 107, 105, 101]⟩ : ByteArray).data.toList.map lowB = ckB.data.toList.map lowB by decide +kernel]
/-- the body's arguments -/
def urlK (v : ByteArray) : Bool := (str (trimL (cutS v ⟨#[59]⟩).1.data.toList)).data.toList.map lowB == ueB.data.toList
def formA (s : ByteArray) : List Fd := (pcs s ⟨#[38]⟩).flatMap keepF
def errM (e : Int) : Int := if e = 0 ∨ e = 2 then e else 4
noncomputable def bodyR (ct : List ByteArray) (body : ByteArray) (most : Int) : List Fd × Int :=
  match ct with
  | [] => ([], 0)
  | v :: _ => if urlK v = true then (limR most (formA body), limE most (formA body)) else if (bndR v).2 = false then ([], 0) else ((readR (bndR v).1 body (min most 20)).1, errM (readR (bndR v).1 body (min most 20)).2)
theorem body_nil (body : ByteArray) (most : Int) : bodyR [] body most = ([], 0) := rfl
theorem body_url {v : ByteArray} {l : List ByteArray} {body : ByteArray} {most : Int} (h : urlK v = true) : bodyR (v :: l) body most = (limR most (formA body), limE most (formA body)) := by unfold bodyR; dsimp only; rw [if_pos h]
theorem body_no {v : ByteArray} {l : List ByteArray} {body : ByteArray} {most : Int} (h : urlK v = false) (h2 : (bndR v).2 = false) : bodyR (v :: l) body most = ([], 0) := by unfold bodyR; dsimp only; rw [if_neg (by rw [h]; decide), if_pos h2]
theorem body_multi {v : ByteArray} {l : List ByteArray} {body : ByteArray} {most : Int} (h : urlK v = false) (h2 : (bndR v).2 = true) : bodyR (v :: l) body most = ((readR (bndR v).1 body (min most 20)).1, errM (readR (bndR v).1 body (min most 20)).2) := by unfold bodyR; dsimp only; rw [if_neg (by rw [h]; decide), if_neg (by rw [h2]; decide)]
/-- all arguments and cookies -/
noncomputable def argsR (fs : List Fd) (t body : ByteArray) (most : Int) : List Fd × List Fd × Int :=
  if limE most (formA (queS t)) ≠ 0 then ([], [], 2) else
  if (bodyR (getL fs ctB) body (most - (formA (queS t)).length)).2 ≠ 0 then ([], [], (bodyR (getL fs ctB) body (most - (formA (queS t)).length)).2) else
  if limE most ((getL fs ckB).flatMap cookV) ≠ 0 then ([], [], 2) else
    (formA (queS t) ++ (bodyR (getL fs ctB) body (most - (formA (queS t)).length)).1, (getL fs ckB).flatMap cookV, 0)
theorem lim_cases (most : Int) (L : List Fd) : (limE most L = 2 ∧ limR most L = []) ∨ (limE most L = 0 ∧ limR most L = L ∧ ¬ max most 0 < (L.length : Int)) := by
  by_cases h : max most 0 < (L.length : Int)
  · exact .inl (lim_many h)
  · exact .inr ⟨(lim_ok h).1, (lim_ok h).2, h⟩
theorem readN_le (b : ByteArray) (most : Int) : ∀ (n : Nat) (s : ByteArray) (out : List Fd), (readN b most n s out).1.length ≤ out.length + n
  | 0, s, out => by rw [readN]; exact Nat.zero_le _
  | n + 1, s, out => by
    rw [readN]
    split
    · exact Nat.le_add_right _ _
    · split
      · exact Nat.zero_le _
      · split
        · exact Nat.zero_le _
        · split
          · exact Nat.zero_le _
          · rename_i x _ _
            have := readN_le b most n x.2 (out ++ [x.1])
            rw [List.length_append, List.length_singleton] at this; omega
theorem readR_le (b s : ByteArray) (most : Int) : (readR b s most).1.length ≤ 4097 := by
  unfold readR
  split
  · exact Nat.zero_le _
  · split
    · exact Nat.zero_le _
    · split
      · exact Nat.zero_le _
      · have := readN_le b most (s.size + 1) (s.extract (ddB b).size s.size) []
        rw [List.length_nil] at this; omega
theorem limR_len (most : Int) (L : List Fd) : (limR most L).length ≤ L.length := by unfold limR; split <;> simp
theorem formA_len {s : ByteArray} (h : s.size ≤ 1048576) : (formA s).length ≤ 1048577 := by
  have h2 := fm_max keepF_le (pcs s ⟨#[38]⟩)
  have h3 := pcs_le (s := s) (t := ⟨#[38]⟩) (by decide)
  unfold formA; omega
theorem bodyR_len {ct : List ByteArray} {body : ByteArray} {most : Int} (h : body.size ≤ 1048576) : (bodyR ct body most).1.length ≤ 1048577 := by
  unfold bodyR
  split
  · exact Nat.zero_le _
  · split
    · exact Nat.le_trans (limR_len _ _) (formA_len h)
    · split
      · exact Nat.zero_le _
      · exact Nat.le_trans (readR_le _ _ _) (by omega)
end Go.Proofs.YtaepbpdcfmklpaaDoor
