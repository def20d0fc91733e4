/- Walks: wickref.Has, multi.Join. -/
import Derived.Test.YtnpjmaoidkofeaaAnyB
import Derived.Test.YtnpjmaoidkofeaaMulA
import Derived.Test.YtnpjmaoidkofeaaSpl
import Derived.Test.YtnpjmaoidkofeaaFd
import Derived.Test.YtnpjmaoidkofeaaBldU
namespace Go.Proofs.Ytnpjmaoidkofeaa
open Go.RowKit
set_option linter.unusedVariables false
set_option linter.unusedSimpArgs false

/-- wickref.Has -/
theorem has_any (x t : ByteArray) (w : World) (hx : x.size ≤ 140737488355328) (ht : t.size ≤ 140737488355328) :
    Calls Try.prog 29 #[.string x, .string t] w fun e w' => e = .returned (.bool (Lib.contains x.data.toList t.data.toList)) ∧ w = w' := by
  have C := Find_any x t 0 w hx ht (by omega) (by omega)
  rw [show fndL x.data.toList t.data.toList (0 : Int).toNat = Lib.index x.data.toList t.data.toList from fnd0 _ _] at C
  unfold Lib.contains
  obtain ⟨i, hi⟩ : ∃ i, i = Lib.index x.data.toList t.data.toList := ⟨_, rfl⟩
  rw [← hi] at C ⊢
  have C := Lib.hid C
  clear hi
  go_enter Try.func29, Try.ntmps29
  go_wp2_with fail
  refine C.out.mono ?_
  rintro e w' ⟨rfl, rfl⟩
  go_wp2_with fail
  go_ret
  exact ⟨rfl, rfl⟩
theorem has1_any (x : ByteArray) (b : UInt8) (w : World) (hx : x.size ≤ 140737488355328) :
    Calls Try.prog 29 #[.string x, .string ⟨#[b]⟩] w fun e w' => e = .returned (.bool (decide (0 ≤ Lib.indexByte x.data.toList b))) ∧ w = w' := by
  have h := has_any x ⟨#[b]⟩ w hx (by show 1 ≤ _; omega)
  unfold Lib.contains at h
  rw [show (⟨#[b]⟩ : ByteArray).data.toList = [b] from rfl, Lib.index_one] at h
  exact h
theorem contains_lib (s sub : ByteArray) (m : Int) (w : World) (hs : s.size ≤ 2097152) (hm : w.cell? ⟨0, 0, none⟩ = some (.int .i64 m)) :
    Calls Try.prog 26 #[.string s, .string sub] w fun e w' => e = .returned (.bool (Lib.contains s.data.toList sub.data.toList)) ∧ w = w' :=
  (Try.strings_Contains s sub m w (by omega) hm).mono fun _ _ h => ⟨h.1, h.2.symm⟩
/-- is a part none that a body may hold? -/
def inV (b : ByteArray) (f : Fd) : Bool := Lib.contains ([13, 10] ++ f.v.data.toList) ([13, 10, 45, 45] ++ b.data.toList)
def badP (b : ByteArray) (f : Fd) : Bool := hasQ f.n || inV b f
def partT (b : ByteArray) (f : Fd) : List UInt8 := [45, 45] ++ (b.data.toList ++ ([13, 10, 67, 111, 110, 116, 101, 110, 116, 45, 68, 105, 115, 112, 111, 115, 105, 116, 105, 111, 110, 58, 32, 102, 111, 114, 109, 45, 100, 97, 116, 97, 59, 32, 110, 97, 109, 101, 61, 34] ++ (f.n.data.toList ++ ([34, 13, 10, 13, 10] ++ (f.v.data.toList ++ [13, 10])))))
def partsT (b : ByteArray) (l : List Fd) : List UInt8 := l.flatMap (partT b)
def endT (b : ByteArray) : List UInt8 := [45, 45] ++ (b.data.toList ++ [45, 45, 13, 10])
def joinE (b : ByteArray) (l : List Fd) : Int := if bndL b = false then 1 else if 20 < l.length then 2 else if l.any (badP b) = true then 4 else 0
def joinS (b : ByteArray) (l : List Fd) : ByteArray := if joinE b l = 0 then str (partsT b l ++ endT b) else ⟨#[]⟩
theorem join_arg {b : ByteArray} {l : List Fd} (h : bndL b = false) : joinE b l = 1 ∧ joinS b l = ⟨#[]⟩ := by
  have e : joinE b l = 1 := by unfold joinE; rw [if_pos h]
  exact ⟨e, by unfold joinS; rw [e]; rfl⟩
theorem join_large {b : ByteArray} {l : List Fd} (h : bndL b = true) (h2 : 20 < l.length) : joinE b l = 2 ∧ joinS b l = ⟨#[]⟩ := by
  have e : joinE b l = 2 := by unfold joinE; rw [if_neg (by rw [h]; decide), if_pos h2]
  exact ⟨e, by unfold joinS; rw [e]; rfl⟩
theorem join_bad {b : ByteArray} {l : List Fd} (h : bndL b = true) (h2 : ¬ 20 < l.length) {k : Nat} (hk : k < l.length) (h3 : badP b l[k] = true) : joinE b l = 4 ∧ joinS b l = ⟨#[]⟩ := by
  have e : joinE b l = 4 := by unfold joinE; rw [if_neg (by rw [h]; decide), if_neg h2, if_pos (List.any_eq_true.2 ⟨_, List.getElem_mem hk, h3⟩)]
  exact ⟨e, by unfold joinS; rw [e]; rfl⟩
theorem join_ok {b : ByteArray} {l : List Fd} (h : bndL b = true) (h2 : ¬ 20 < l.length) (h3 : ∀ k (hk : k < l.length), badP b l[k] = false) : joinE b l = 0 ∧ joinS b l = str (partsT b l ++ endT b) := by
  have ha : l.any (badP b) = false := by
    rw [List.any_eq_false]
    intro x hx
    obtain ⟨k, hk, rfl⟩ := List.mem_iff_getElem.1 hx
    rw [h3 k hk]; decide
  have e : joinE b l = 0 := by unfold joinE; rw [if_neg (by rw [h]; decide), if_neg h2, if_neg (by rw [ha]; decide)]
  exact ⟨e, by unfold joinS; rw [if_pos e]⟩
theorem partT_len (b : ByteArray) (f : Fd) : (partT b f).length = b.size + f.n.size + f.v.size + 49 := by
  unfold partT; simp only [List.length_append, lst_len, List.length_cons, List.length_nil]; omega
theorem partsT_snoc {b : ByteArray} {fs : List Fd} {k : Nat} (h : k < fs.length) : partsT b (fs.take (k + 1)) = partsT b (fs.take k) ++ partT b fs[k] := by
  unfold partsT; rw [List.take_succ_eq_append_getElem h, List.flatMap_append]; simp
theorem partsT_len {b : ByteArray} {fs : List Fd} (hb : b.size ≤ 70) (hs : ∀ f ∈ fs, f.n.size ≤ 1048576 ∧ f.v.size ≤ 1048576) : ∀ k, k ≤ fs.length → (partsT b (fs.take k)).length ≤ k * 2100000
  | 0, _ => by simp [partsT]
  | k + 1, h => by
    have h1 := partsT_len hb hs k (by omega)
    have h2 := hs fs[k] (List.getElem_mem _)
    rw [partsT_snoc (by omega), List.length_append, partT_len]; omega
theorem pr_cells {w : World} {B : Nat} {A : Option Addr} {cap : Nat} {fs : List Fd} (h : FdR w B A cap fs) {k : Nat} (hk : k < fs.length) :
    ∃ ad, A = some ad ∧ ad.block < B ∧ w.cell? (ad.add (k * 2)) = some (.string fs[k].n) ∧ w.cell? ⟨(ad.add (k * 2)).block, (ad.add (k * 2)).off + 1, none⟩ = some (.string fs[k].v) ∧ fs[k].n.size ≤ 1048576 ∧ fs[k].v.size ≤ 1048576 := by
  obtain ⟨ad, e, hb, h0, h1, h2, h3⟩ := h.at_ hk
  exact ⟨ad, e, hb, h0, h1, h2, h3⟩
theorem part_eq (b : ByteArray) (f : Fd) : ({ data := #[45, 45] } ++ b ++ { data := #[13, 10, 67, 111, 110, 116, 101, 110, 116, 45, 68, 105, 115, 112, 111, 115, 105, 116, 105, 111, 110, 58, 32, 102, 111, 114, 109, 45, 100, 97, 116, 97, 59, 32, 110, 97, 109, 101, 61, 34] } ++ f.n ++ { data := #[34, 13, 10, 13, 10] } ++ f.v ++ { data := #[13, 10] } : ByteArray).data.toList = partT b f := by
  simp only [lst_app, List.append_assoc]; rfl
theorem right_eq {s : ByteArray} {b : Bool} (h : bndL s = b) (w : World) (hs : s.size ≤ 1048576) : Calls Try.prog 20 #[.string s] w fun e w' => e = .returned (.bool b) ∧ w = w' := h ▸ right_any s w (by omega)
theorem isBnd_eq {s : ByteArray} {b : Bool} (h : bndL s = b) (w : World) (hs : s.size ≤ 1048576) : Calls Try.prog 24 #[.string s] w fun e w' => e = .returned (.bool b) ∧ w = w' := h ▸ isBnd_any s w (by omega)
theorem bldAt_below {w w' : World} {b : Nat} {p : Value} {bs : List Value} {T e : TypeId} (h : Lib.BuilderAt T e b b p bs w) (hb : Below w.heap.size w w') : Lib.BuilderAt T e b b p bs w' := by
  have hlt := h.lt
  obtain ⟨hB, v, hh, ho, hn⟩ := h
  exact ⟨hB, v, (hb.block b hlt).trans hh, World.ownsRow.kept (row := none) ho ⟨hb.os, hb.tape, hb.output, hb.size, fun k hk _ => hb.block k hk⟩ (by cases v.ownBlock <;> simp), hn⟩
theorem Bld.below {w w' : World} {b : Nat} {l : List UInt8} (h : Bld w b l) (hb : Below w.heap.size w w') : Bld w' b l := h.elim (fun h => .inl (bldAt_below h hb)) (fun h => .inr (bldAt_below h hb))
section
variable (b : ByteArray) (fs : List Fd) (A : Option Addr) (cap B : Nat) (m : Int) (w : World)
def JoinRes (b : ByteArray) (fs : List Fd) (w : World) (e : Ending) (w' : World) : Prop := e = .returned (.tuple #[.string (joinS b fs), .int .i64 (joinE b fs)]) ∧ Below w.heap.size w w'
theorem jn_arg (hs : b.size ≤ 1048576) (h : bndL b = false) : Calls Try.prog 8 #[.slice A fs.length cap, .string b] w (JoinRes b fs w) := by
  have C := Lib.hid (right_eq h w hs)
  have HJ := Lib.hid (join_arg (l := fs) h)
  clear h
  go_enter Try.func8, Try.ntmps8
  go_wp2_with fail
  refine C.out.mono ?_
  rintro e w' ⟨rfl, rfl⟩
  go_wp2_with fail
  go_ret2
  refine ⟨?_, Below.refl _ _⟩
  rw [HJ.out.1, HJ.out.2]; rfl
theorem jn_large (hs : b.size ≤ 1048576) (h : bndL b = true) (hl : 20 < fs.length) : Calls Try.prog 8 #[.slice A fs.length cap, .string b] w (JoinRes b fs w) := by
  have C := Lib.hid (right_eq h w hs)
  have HJ := Lib.hid (join_large (l := fs) h hl)
  have d1 : (20 : Int) < (fs.length : Int) := by omega
  clear h
  go_enter Try.func8, Try.ntmps8
  go_wp2_with fail
  refine C.out.mono ?_
  rintro e w' ⟨rfl, rfl⟩
  go_wp2_with fail
  go_ret2
  refine ⟨?_, Below.refl _ _⟩
  rw [HJ.out.1, HJ.out.2]; rfl
set_option maxRecDepth 100000 in
set_option maxHeartbeats 4000000 in
theorem jn_rest (hs : b.size ≤ 1048576) (h : bndL b = true) (hl : ¬ 20 < fs.length) (hf : FdR w B A cap fs) (hB : B ≤ w.heap.size) (hm : w.cell? ⟨0, 0, none⟩ = some (.int .i64 m)) : Calls Try.prog 8 #[.slice A fs.length cap, .string b] w (JoinRes b fs w) := by
  have C := Lib.hid (right_eq h w hs)
  have HJ := Lib.hid fun (k : Nat) (hk : k < fs.length) (h3 : badP b fs[k] = true) => join_bad h hl hk h3
  have HJ0 := Lib.hid (join_ok (l := fs) h hl)
  have hbz := (bnd_size h).2
  have HPL := Lib.hid (partsT_len (fs := fs) hbz hf.2.2.2)
  have d1 : ¬ (20 : Int) < (fs.length : Int) := by omega
  have hmb := World.block_lt_of_cell? _ _ hm
  have HM := Lib.hid fun w' (hb : Below w.heap.size w w') => (hb.cell (p := ⟨0, 0, none⟩) hmb).trans hm
  have HF1 := Lib.hid fun w' (hb : Below w.heap.size w w') => hf.below (hb.mono hB)
  obtain ⟨hcp1, hcp2⟩ : fs.length ≤ cap ∧ cap ≤ 9223372036854775807 := ⟨hf.2.1, hf.2.2.1⟩
  obtain ⟨LN, hLN⟩ : ∃ LN : ByteArray, ({ data := #[45, 45] } ++ b : ByteArray) = LN := ⟨_, rfl⟩
  have hLNz : LN.size ≤ 72 := by rw [← hLN, ← lst_len, lst_app, List.length_append, lst_len, lst_len]; show 2 + _ ≤ _; omega
  have hLNl : LN.data.toList = [45, 45] ++ b.data.toList := by rw [← hLN, lst_app]
  have HLN := Lib.hid hLN
  have HLNL := Lib.hid hLNl
  obtain ⟨W2, hW2⟩ : ∃ W2, w.alloc (.cells #[.pointer none, .slice none 0 0] 52) = W2 := ⟨_, rfl⟩
  have HL0 : Hid (Bld W2 w.heap.size []) := by rw [← hW2]; exact Bld.new _
  have HB2 : Hid (Below w.heap.size w W2) := by rw [← hW2]; exact (Below.refl _ _).alloc (Nat.le_refl _) _
  clear h hf hm hmb hLNl
  go_enter Try.func8, Try.ntmps8
  go_wp2_with fail
  refine C.out.mono ?_
  rintro e w' ⟨rfl, rfl⟩
  go_wp2_with fail
  clear hLN hW2
  go_loopw [20] (fun i wr => ∃ k : Nat, k ≤ fs.length ∧ i = .int .i64 k ∧ Bld wr w.heap.size (partsT b (fs.take k)) ∧ Below w.heap.size w wr ∧ Hid (∀ j (hj : j < fs.length), j < k → badP b fs[j] = false)) (fun i _ => fs.length - (intOf i).toNat)
  case atStart => exact ⟨0, by omega, rfl, by simpa [partsT] using HL0.out, HB2.out, Lib.hid fun j hj h => absurd h (by omega)⟩
  case round =>
    obtain ⟨k, hk, rfl, hl0, hb, HN⟩ := hrel
    have HL := Lib.hid hl0
    have HB := Lib.hid hb
    have hz := hb.size
    have hlen := HPL.out k hk
    by_cases hlt : k < fs.length
    · obtain ⟨ad, rfl, hab, x0, x1, z0, z1⟩ := pr_cells (HF1.out wr hb) hlt
      have hJ := HJ.out k hlt
      have hP : ∀ (b0 : Bool), badP b fs[k] = b0 → b0 = false → Hid (∀ j (hj : j < fs.length), j < k + 1 → badP b fs[j] = false) := fun b0 h1 h2 j hj h3 => by
        by_cases e : j = k
        · subst e; rw [h1, h2]
        · exact HN.out j hj (by omega)
      have HP := Lib.hid hP
      obtain ⟨L, hL⟩ : ∃ L, L = partsT b (fs.take k) := ⟨_, rfl⟩
      have hN : partsT b (fs.take (k + 1)) = L ++ partT b fs[k] := by rw [hL, partsT_snoc hlt]
      rw [← hL] at HL hlen
      have HN2 := Lib.hid hN
      have hl20 : L.length ≤ 42000000 := by omega
      clear hL hN hb hl0 hP hlen
      obtain ⟨f, hfe⟩ : ∃ f, f = fs[k] := ⟨_, rfl⟩
      rw [← hfe] at x0 x1 z0 z1 HN2 hJ HP
      have HJ1 := Lib.hid hJ
      clear hfe hJ
      obtain ⟨V, hV⟩ : ∃ V, wr.alloc (.cells #[.string f.n, .string f.v] 33) = V := ⟨_, rfl⟩
      have hVb : Below wr.heap.size wr V := by rw [← hV]; exact (Below.refl _ _).alloc (Nat.le_refl _) _
      have hVk : Blk V wr.heap.size 33 #[.string f.n, .string f.v] := by rw [← hV]; exact Blk.new _ _ _
      have hVl := hVk.lt
      have y0 : V.cell? ⟨wr.heap.size, 0, none⟩ = some (.string f.n) := hVk.cell 0
      have y1 : V.cell? ⟨wr.heap.size, 1, none⟩ = some (.string f.v) := hVk.cell 1
      have hVL : Bld V w.heap.size L := by rw [← hV]; exact HL.out.alloc _
      have C1 := Lib.hid (containsAny_any f.n V z0)
      have HVK := Lib.hid hVk
      have HVL := Lib.hid hVL
      have HBV := Lib.hid (HB.out.trans (hVb.mono hz))
      clear hVb hVk hVL
      go_wp2_with fail
      refine C1.out.mono ?_
      rintro e w3 ⟨rfl, b3⟩
      clear hV y0 y1
      have hV3 := HVK.out.below b3 hVl
      have y0 : w3.cell? ⟨wr.heap.size, 0, none⟩ = some (.string f.n) := hV3.cell 0
      have y1 : w3.cell? ⟨wr.heap.size, 1, none⟩ = some (.string f.v) := hV3.cell 1
      have HB3 := Lib.hid (HBV.out.trans (b3.mono (Nat.le_trans hz (Nat.le_of_lt hVl))))
      have HL3 : Hid (Bld w3 w.heap.size L) := Lib.hid (HVL.out.below b3)
      clear b3 hV3
      cases hq : hasQ f.n with
      | true =>
        have HF := Lib.hid (HJ1.out (by unfold badP; rw [hq]; rfl))
        clear hq
        go_wp2_with fail
        go_ret2
        refine ⟨?_, HB3.out⟩
        rw [HF.out.1, HF.out.2]; rfl
      | false =>
        have e3 : ({ data := #[13, 10] } ++ f.v : ByteArray).data.toList = [13, 10] ++ f.v.data.toList := lst_app _ _
        have e4 : ({ data := #[13, 10] } ++ LN : ByteArray).data.toList = [13, 10, 45, 45] ++ b.data.toList := by rw [lst_app, HLNL.out]; rfl
        have C2 := contains_lib ({ data := #[13, 10] } ++ f.v) ({ data := #[13, 10] } ++ LN) m w3 (by rw [← lst_len, e3, List.length_append, lst_len]; show 2 + _ ≤ _; omega) (HM.out _ HB3.out)
        rw [e3, e4] at C2
        have hbv : badP b f = inV b f := by unfold badP; rw [hq]; rfl
        obtain ⟨iv, hiv⟩ : ∃ iv, iv = inV b f := ⟨_, rfl⟩
        rw [show Lib.contains ([13, 10] ++ f.v.data.toList) ([13, 10, 45, 45] ++ b.data.toList) = iv from hiv.symm] at C2
        rw [← hiv] at hbv
        have C2 := Lib.hid C2
        have HBV2 := Lib.hid hbv
        clear hq e3 e4 hiv hbv
        cases iv with
        | true =>
          have HF := Lib.hid (HJ1.out HBV2.out)
          go_wp2_with fail
          refine C2.out.mono ?_
          rintro e w4 ⟨rfl, rfl⟩
          go_wp2_with fail
          go_ret2
          refine ⟨?_, HB3.out⟩
          rw [HF.out.1, HF.out.2]; rfl
        | false =>
          go_wp2_with fail
          refine C2.out.mono ?_
          rintro e w4 ⟨rfl, rfl⟩
          have hzz : (LN ++ { data := #[13, 10, 67, 111, 110, 116, 101, 110, 116, 45, 68, 105, 115, 112, 111, 115, 105, 116, 105, 111, 110, 58, 32, 102, 111, 114, 109, 45, 100, 97, 116, 97, 59, 32, 110, 97, 109, 101, 61, 34] } ++ f.n ++ { data := #[34, 13, 10, 13, 10] } ++ f.v ++ { data := #[13, 10] } : ByteArray).data.toList = partT b f := by rw [← part_eq, HLN.out]
          have HZZ := Lib.hid hzz
          clear hzz
          go_wp2_with fail
          refine (write_any _ HL3.out ?hl).mono ?_
          case hl => rw [← lst_len, HZZ.out, partT_len]; omega
          rintro e w5 ⟨rfl, hl5, hb5⟩
          rw [HZZ.out, ← HN2.out] at hl5
          have HL5 := Lib.hid hl5
          have HB5 := Lib.hid (HB3.out.trans hb5)
          clear hl5 hb5
          go_wp2_with fail
          go_roundw
          case rel => exact ⟨k + 1, by omega, by go_num, HL5.out, HB5.out, HP.out _ HBV2.out rfl⟩
          case measure => simp [intOf]; omega
    · obtain rfl : k = fs.length := by omega
      have HF := Lib.hid (HJ0.out fun j hj => HN.out j hj hj)
      rw [List.take_length] at HL hlen
      clear hb hl0
      go_wp2_with fail
      refine (bldString_any HL.out).mono ?_
      rintro e w3 ⟨rfl, hb3⟩
      have HB4 := Lib.hid (HB.out.trans hb3)
      clear hb3
      obtain ⟨S, hS⟩ : ∃ S, S = str (partsT b fs) := ⟨_, rfl⟩
      have zz : S.size ≤ 42000000 := by rw [hS, size_str]; omega
      rw [← hS]
      have HSS := Lib.hid hS
      clear hS
      go_wp2_with fail
      go_ret2
      refine ⟨?_, HB4.out⟩
      rw [HF.out.1, HF.out.2, HSS.out]
      have : str (partsT b fs) ++ LN ++ { data := #[45, 45, 13, 10] } = str (partsT b fs ++ endT b) := by
        apply lst_inj
        rw [lst_app, lst_app, HLNL.out, lst_mk, lst_mk]
        unfold endT
        rw [List.append_assoc, List.append_assoc]
      rw [← this]; rfl
theorem join_any (hs : b.size ≤ 1048576) (hf : FdR w B A cap fs) (hB : B ≤ w.heap.size) (hm : w.cell? ⟨0, 0, none⟩ = some (.int .i64 m)) : Calls Try.prog 8 #[.slice A fs.length cap, .string b] w (JoinRes b fs w) := by
  cases h : bndL b with
  | false => exact jn_arg b fs A cap w hs h
  | true =>
    by_cases hl : 20 < fs.length
    · exact jn_large b fs A cap w hs h hl
    · exact jn_rest b fs A cap B m w hs h hl hf hB hm
end
end Go.Proofs.Ytnpjmaoidkofeaa
