/- Walks: args.Write, wickref.FormText. -/
import Derived.Test.YtnpjmaoidkofeaaDoorArgC
import Derived.Test.YtnpjmaoidkofeaaDoorUrlC
import Derived.Deep.RegionLaw
import Derived.Deep.RegionHeld3
namespace Go.Proofs.YtnpjmaoidkofeaaDoor
open Go.RowKit
set_option linter.unusedVariables false
set_option linter.unusedSimpArgs false

def encU (x : ByteArray) : ByteArray := str (x.data.toList.flatMap urlE)
def lineF (f : Fd) : ByteArray := (encU f.n ++ { data := #[61] } : ByteArray) ++ encU f.v
def writeS (fs : List Fd) : ByteArray := str (Lib.join (dl (fs.map lineF)) [38])
theorem encU_size (x : ByteArray) : (encU x).size ≤ 3 * x.size := by
  unfold encU
  have := flat_le urlE_le x.data.toList
  rw [lst_len] at this
  rw [size_str]; omega
theorem lineF_size (f : Fd) : (lineF f).size ≤ 3 * f.n.size + 3 * f.v.size + 1 := by
  have h1 := encU_size f.n
  have h2 := encU_size f.v
  have e : (lineF f).size = (encU f.n).size + 1 + (encU f.v).size := by
    unfold lineF
    rw [← lst_len, lst_app, lst_app, List.length_append, List.length_append, lst_len, lst_len, lst_len]; rfl
  omega
theorem write_le {fs : List Fd} (hl : fs.length ≤ 1048576) (hs : ∀ f ∈ fs, f.n.size ≤ 1048576 ∧ f.v.size ≤ 1048576) : (Lib.join (dl (fs.map lineF)) [38]).length ≤ 140737488355320 := by
  have key : ∀ fs : List Fd, (∀ f ∈ fs, f.n.size ≤ 1048576 ∧ f.v.size ≤ 1048576) → Lib.lens (dl (fs.map lineF)) ≤ fs.length * 6291457 := by
    intro fs
    induction fs with
    | nil => intro _; exact Nat.le_refl _
    | cons f fs ih =>
      intro hs
      have h1 := ih fun x hx => hs x (List.mem_cons_of_mem _ hx)
      have h2 := hs f (List.mem_cons_self ..)
      have h3 := lineF_size f
      show (lineF f).data.toList.length + Lib.lens (dl (fs.map lineF)) ≤ _
      rw [lst_len, List.length_cons]; omega
  cases fs with
  | nil => exact Nat.zero_le _
  | cons f fs =>
    show (Lib.join ((lineF f).data.toList :: dl (fs.map lineF)) [38]).length ≤ _
    rw [Lib.join_length]
    have h1 := key (f :: fs) hs
    have h2 : (dl (fs.map lineF)).length = fs.length := by simp
    rw [h2]
    rw [List.length_cons] at hl h1
    have h3 : Lib.lens ((lineF f).data.toList :: dl (fs.map lineF)) ≤ (fs.length + 1) * 6291457 := h1
    simp only [List.length_cons, List.length_nil]
    omega
/-- under way: the pair's box, what is gathered -/
structure Wst (w : World) (g : Nat) (n v : ByteArray) (u : Value) (L : List ByteArray) (wr : World) : Prop where
  blk : Blk wr g 47 #[.string n, .string v]
  own : OS wr w.heap.size u L
  be : Below w.heap.size w wr
section
variable {w wr wr' : World} {g : Nat} {n v : ByteArray} {u : Value} {L : List ByteArray}
theorem Wst.step (h : Wst w g n v u L wr) (hb : Below wr.heap.size wr wr') : Wst w g n v u L wr' := ⟨h.blk.below hb h.blk.lt, h.own.kept hb, h.be.trans (hb.mono h.be.size)⟩
theorem Wst.drew (h : Wst w g n v u L wr) : Wst w g n v u L wr.drew := ⟨h.blk, h.own, h.be.trans (below_drewN (Below.refl _ _) 1)⟩
theorem Wst.facts (h : Wst w g n v u L wr) : wr.cell? ⟨g, 0, none⟩ = some (.string n) ∧ wr.cell? ⟨g, 1, none⟩ = some (.string v) := ⟨h.blk.cell 0, h.blk.cell 1⟩
/-- append of a text in a drawn region -/
theorem step_wst {ops : Array Oper} {o : Oper} {a : Act} {K : Act → World → Prop} {Q : Exit → Act → World → Prop} {E : Prop} (hgd : o.guard = none) (p q : Operand)
    (hop : o.op = .call { callee := .builtin .append, args := #[p, q], argTypes := #[39, 39] })
    (hH : Wst w g n v u L wr) (hs : a.eval p = u) (x : ByteArray)
    (hx : a.eval q = .slice (some ⟨wr.heap.size, 0, none⟩) 1 1) (hlen : L.length ≤ 1000000000)
    (hK : ∀ A' c' w', OS w' w.heap.size (.slice A' (L.length + 1) c') (L ++ [x]) → Below w.heap.size w w' → K (a.put o.dst (.slice A' (L.length + 1) c')) w') :
    if Region.wanted o (yielded ops a.tmps) = true then Oper.wp Tryd.prog o a (wr.alloc (.cells #[.string x] 9)) K Q else E := by
  obtain ⟨i0, hi0, hz0, hz1, hz2⟩ := info_parts infoStr
  refine step_appG (P := Tryd.prog) (Q := Q) (ops := ops) hgd p q hop Tryd.underlying39 hi0 hz0 hz1 hz2 rfl (by decide) hH.own hs [.string x] 1 1 hx rfl (by
    intro u hu
    rw [List.mem_singleton] at hu; rw [hu]; rfl) (by unfold maxLen; omega) (by omega) hH.be.size fun v' w' h2 h3 => ?_
  have h4 : OS w' w.heap.size v' (L ++ [x]) := by unfold OS; rw [List.length_append, List.map_append]; exact h2
  have hbl : Below w.heap.size wr w' := h3.below hH.be.size (own_from hH.own)
  obtain ⟨A', c', rfl⟩ := h4.form
  rw [List.length_append, List.length_singleton] at h4 ⊢
  have h5 : OS w' w.heap.size (.slice A' (L.length + 1) c') (L ++ [x]) := h4
  exact hK A' c' w' h5 (hH.be.trans hbl)
end
/-- what is gathered -/
structure Ost (w : World) (u : Value) (L : List ByteArray) (wr : World) : Prop where
  own : OS wr w.heap.size u L
  be : Below w.heap.size w wr
section
variable {w wr wr' : World} {u : Value} {L : List ByteArray}
theorem Ost.step (h : Ost w u L wr) (hb : Below wr.heap.size wr wr') : Ost w u L wr' := ⟨h.own.kept hb, h.be.trans (hb.mono h.be.size)⟩
theorem Ost.drew (h : Ost w u L wr) : Ost w u L wr.drew := ⟨h.own, h.be.trans (below_drewN (Below.refl _ _) 1)⟩
/-- append of a text in a drawn region -/
theorem step_ost {ops : Array Oper} {o : Oper} {a : Act} {K : Act → World → Prop} {Q : Exit → Act → World → Prop} {E : Prop} (hgd : o.guard = none) (p q : Operand)
    (hop : o.op = .call { callee := .builtin .append, args := #[p, q], argTypes := #[39, 39] })
    (hH : Ost w u L wr) (hs : a.eval p = u) (x : ByteArray)
    (hx : a.eval q = .slice (some ⟨wr.heap.size, 0, none⟩) 1 1) (hlen : L.length ≤ 1000000000)
    (hK : ∀ A' c' w', OS w' w.heap.size (.slice A' (L.length + 1) c') (L ++ [x]) → Below w.heap.size w w' → K (a.put o.dst (.slice A' (L.length + 1) c')) w') :
    if Region.wanted o (yielded ops a.tmps) = true then Oper.wp Tryd.prog o a (wr.alloc (.cells #[.string x] 9)) K Q else E := by
  obtain ⟨i0, hi0, hz0, hz1, hz2⟩ := info_parts infoStr
  refine step_appG (P := Tryd.prog) (Q := Q) (ops := ops) hgd p q hop Tryd.underlying39 hi0 hz0 hz1 hz2 rfl (by decide) hH.own hs [.string x] 1 1 hx rfl (by
    intro u hu
    rw [List.mem_singleton] at hu; rw [hu]; rfl) (by unfold maxLen; omega) (by omega) hH.be.size fun v' w' h2 h3 => ?_
  have h4 : OS w' w.heap.size v' (L ++ [x]) := by unfold OS; rw [List.length_append, List.map_append]; exact h2
  have hbl : Below w.heap.size wr w' := h3.below hH.be.size (own_from hH.own)
  obtain ⟨A', c', rfl⟩ := h4.form
  rw [List.length_append, List.length_singleton] at h4 ⊢
  have h5 : OS w' w.heap.size (.slice A' (L.length + 1) c') (L ++ [x]) := h4
  exact hK A' c' w' h5 (hH.be.trans hbl)
end
section
variable (fs : List Fd) (A : Option Addr) (cap : Nat) (w : World)
theorem pr_cell {w : World} {B : Nat} {A : Option Addr} {cap : Nat} {fs : List Fd} (h : FdR w B A cap fs) {k : Nat} (hk : k < fs.length) :
    ∃ ad, A = some ad ∧ ad.block < B ∧ w.cell? (ad.add (k * 2)) = some (.string fs[k].n) ∧ w.cell? ⟨(ad.add (k * 2)).block, (ad.add (k * 2)).off + 1, none⟩ = some (.string fs[k].v) ∧ fs[k].n.size ≤ 1048576 ∧ fs[k].v.size ≤ 1048576 := by
  obtain ⟨ad, e, hb, h0, h1, h2, h3⟩ := h.at_ hk
  exact ⟨ad, e, hb, h0, h1, h2, h3⟩
set_option maxRecDepth 100000 in
set_option maxHeartbeats 8000000 in
theorem write_any' (hf : FdR w w.heap.size A cap fs) (hl : fs.length ≤ 1048576) :
    Calls Tryd.prog 24 #[.slice A fs.length cap] w fun e w' => e = .returned (.string (writeS fs)) ∧ Below w.heap.size w w' := by
  have HF1 := Lib.hid fun w' (hb : Below w.heap.size w w') => hf.below hb
  obtain ⟨hcp1, hcp2⟩ : fs.length ≤ cap ∧ cap ≤ 9223372036854775807 := ⟨hf.2.1, hf.2.2.1⟩
  have HJ := Lib.hid (write_le hl hf.2.2.2)
  obtain ⟨T, hT⟩ : ∃ T, T = writeS fs := ⟨_, rfl⟩
  rw [← hT]
  have HT := Lib.hid hT
  clear hf hT
  go_enter Tryd.func24, Tryd.ntmps24
  go_wp2_with fail
  go_loopw [3, 5, 8] (fun ov _ iv wr => ∃ k : Nat, iv = .int .i64 k ∧ k ≤ fs.length ∧ OS wr w.heap.size ov ((fs.take k).map lineF) ∧ Hid (Below w.heap.size w wr)) (fun _ _ iv _ => fs.length - (intOf iv).toNat)
  case atStart => exact ⟨0, rfl, Nat.zero_le _, OS.nil _ _, Lib.hid (Below.refl _ _)⟩
  case round =>
    obtain ⟨k, rfl, hk, ho, HB⟩ := hrel
    have hll : ((fs.take k).map lineF).length = k := by rw [List.length_map, List.length_take]; omega
    obtain ⟨A0, c0, e0⟩ := ho.form
    rw [hll] at e0
    subst e0
    have HO := Lib.hid ho
    clear ho
    by_cases hlt : k < fs.length
    · obtain ⟨ad, rfl, hab, x0, x1, z0, z1⟩ := pr_cell (HF1.out wr HB.out) hlt
      have hsn : (fs.take (k + 1)).map lineF = (fs.take k).map lineF ++ [lineF fs[k]] := by rw [List.take_succ_eq_append_getElem hlt, List.map_append]; rfl
      obtain ⟨f, hfe⟩ : ∃ f, f = fs[k] := ⟨_, rfl⟩
      rw [← hfe] at x0 x1 z0 z1 hsn
      have hln : lineF f = (encU f.n ++ { data := #[61] } : ByteArray) ++ encU f.v := rfl
      have CN := fun w' => urlEncode_any f.n w' z0
      have CV := fun w' => urlEncode_any f.v w' z1
      have zn := encU_size f.n
      have zv := encU_size f.v
      obtain ⟨n1, hn1⟩ : ∃ n1, n1 = encU f.n := ⟨_, rfl⟩
      obtain ⟨v1, hv1⟩ : ∃ v1, v1 = encU f.v := ⟨_, rfl⟩
      have CN := Lib.hid (show ∀ w', Calls Tryd.prog 54 #[.string f.n] w' fun e w'' => e = .returned (.string n1) ∧ Below w'.heap.size w' w'' by rw [hn1]; exact CN)
      have CV := Lib.hid (show ∀ w', Calls Tryd.prog 54 #[.string f.v] w' fun e w'' => e = .returned (.string v1) ∧ Below w'.heap.size w' w'' by rw [hv1]; exact CV)
      rw [← hn1] at zn hln
      rw [← hv1] at zv hln
      obtain ⟨G, hG⟩ : ∃ G, G = (fs.take k).map lineF := ⟨_, rfl⟩
      rw [← hG] at hsn HO hll
      have hGl : G.length ≤ 1048576 := by omega
      have HSN := Lib.hid hsn
      have HLN := Lib.hid hln
      have zn3 : n1.size ≤ 3145728 := by omega
      have zv3 : v1.size ≤ 3145728 := by omega
      have s1 : ¬ 9223372036854775807 < n1.size + 1 := by omega
      have s2 : ¬ 9223372036854775807 < n1.size + 1 + v1.size := by omega
      obtain ⟨V, hV⟩ : ∃ V, wr.alloc (.cells #[.string f.n, .string f.v] 47) = V := ⟨_, rfl⟩
      have hVb : Below wr.heap.size wr V := by rw [← hV]; exact (Below.refl _ _).alloc (Nat.le_refl _) _
      have hS : Wst w wr.heap.size f.n f.v (.slice A0 k c0) G V := ⟨by rw [← hV]; exact Blk.new _ _ _, HO.out.kept hVb, HB.out.trans (hVb.mono HB.out.size)⟩
      have hSd := hS.drew
      obtain ⟨y0, y1⟩ := hSd.facts
      obtain ⟨y2, y3⟩ := hS.facts
      have HLL := Lib.hid hll
      clear hsn hln hn1 hv1 hG hfe hVb hS HO hll
      go_wp2_with fail
      clear hV
      go_region_law (first
        | (refine step_wst rfl (.tmp 12) (.tmp 21) rfl (by assumption) (by rfl) _ (by rfl) (by omega) ?_; intro A1 c1' w5 hH5 hB5)
        | (go_simp; go_at_call 54; (with_reducible refine (CN.out _).mono ?_); rintro e w' ⟨rfl, hb'⟩; have hs' := Wst.step (by assumption) hb'; obtain ⟨q0, q1⟩ := hs'.facts; clear hb')
        | (go_simp; go_at_call 54; (with_reducible refine (CV.out _).mono ?_); rintro e w' ⟨rfl, hb'⟩; have hs' := Wst.step (by assumption) hb'; obtain ⟨q0, q1⟩ := hs'.facts; clear hb'))
      all_goals
        rw [HLL.out] at hH5
        have HS5 := Lib.hid hH5
        have HB5 := Lib.hid hB5
        have hgl := HLL.out
        clear hH5 hB5
        go_wp2_with fail
        go_roundw
        case rel => exact ⟨k + 1, by go_num, by omega, by rw [HSN.out, HLN.out]; exact HS5.out, HB5⟩
        case measure => simp [intOf]; omega
    · obtain rfl : k = fs.length := by omega
      rw [List.take_length] at HO hll
      have CJ := jn_any A0 c0 (fs.map lineF) ⟨#[38]⟩ wr w.heap.size (by rw [hll]; exact HO.out) (by rw [hll]; omega) HJ.out
      rw [hll] at CJ
      have HTT : Hid (str (Lib.join (dl (fs.map lineF)) (⟨#[38]⟩ : ByteArray).data.toList) = T) := Lib.hid HT.out.symm
      rw [HTT.out] at CJ
      have CJ := Lib.hid CJ
      clear hll
      go_wp2_with fail
      refine CJ.out.mono ?_
      rintro e w2 ⟨rfl, b2⟩
      have HB2 := Lib.hid (HB.out.trans (b2.mono HB.out.size))
      clear b2
      go_wp2_with fail
      go_ret
      exact ⟨rfl, HB2.out⟩
set_option maxRecDepth 100000 in
set_option maxHeartbeats 8000000 in
theorem rwrite_any (hf : FdR w w.heap.size A cap fs) (hl : fs.length ≤ 1048576) :
    Calls Tryd.prog 25 #[.slice A fs.length cap] w fun e w' => e = .returned (.string (writeS fs)) ∧ Below w.heap.size w w' := by
  have HF1 := Lib.hid fun w' (hb : Below w.heap.size w w') => hf.below hb
  obtain ⟨hcp1, hcp2⟩ : fs.length ≤ cap ∧ cap ≤ 9223372036854775807 := ⟨hf.2.1, hf.2.2.1⟩
  have HJ := Lib.hid (write_le hl hf.2.2.2)
  obtain ⟨T, hT⟩ : ∃ T, T = writeS fs := ⟨_, rfl⟩
  rw [← hT]
  have HT := Lib.hid hT
  clear hf hT
  go_enter Tryd.func25, Tryd.ntmps25
  go_wp2_with fail
  go_loopw [3, 4] (fun ov iv wr => ∃ k : Nat, iv = .int .i64 k ∧ k ≤ fs.length ∧ OS wr w.heap.size ov ((fs.take k).map lineF) ∧ Hid (Below w.heap.size w wr)) (fun _ iv _ => fs.length - (intOf iv).toNat)
  case atStart => exact ⟨0, rfl, Nat.zero_le _, OS.nil _ _, Lib.hid (Below.refl _ _)⟩
  case round =>
    obtain ⟨k, rfl, hk, ho, HB⟩ := hrel
    have hll : ((fs.take k).map lineF).length = k := by rw [List.length_map, List.length_take]; omega
    obtain ⟨A0, c0, e0⟩ := ho.form
    rw [hll] at e0
    subst e0
    have HO := Lib.hid ho
    clear ho
    by_cases hlt : k < fs.length
    · obtain ⟨ad, rfl, hab, x0, x1, z0, z1⟩ := pr_cell (HF1.out wr HB.out) hlt
      have hsn : (fs.take (k + 1)).map lineF = (fs.take k).map lineF ++ [lineF fs[k]] := by rw [List.take_succ_eq_append_getElem hlt, List.map_append]; rfl
      obtain ⟨f, hfe⟩ : ∃ f, f = fs[k] := ⟨_, rfl⟩
      rw [← hfe] at x0 x1 z0 z1 hsn
      have hln : lineF f = (encU f.n ++ { data := #[61] } : ByteArray) ++ encU f.v := rfl
      have CN := fun w' => UrlEncode_any f.n w' z0
      have CV := fun w' => UrlEncode_any f.v w' z1
      have zn := encU_size f.n
      have zv := encU_size f.v
      obtain ⟨n1, hn1⟩ : ∃ n1, n1 = encU f.n := ⟨_, rfl⟩
      obtain ⟨v1, hv1⟩ : ∃ v1, v1 = encU f.v := ⟨_, rfl⟩
      have CN := Lib.hid (show ∀ w', Calls Tryd.prog 56 #[.string f.n] w' fun e w'' => e = .returned (.string n1) ∧ Below w'.heap.size w' w'' by rw [hn1]; exact CN)
      have CV := Lib.hid (show ∀ w', Calls Tryd.prog 56 #[.string f.v] w' fun e w'' => e = .returned (.string v1) ∧ Below w'.heap.size w' w'' by rw [hv1]; exact CV)
      rw [← hn1] at zn hln
      rw [← hv1] at zv hln
      obtain ⟨G, hG⟩ : ∃ G, G = (fs.take k).map lineF := ⟨_, rfl⟩
      rw [← hG] at hsn HO hll
      have hGl : G.length ≤ 1048576 := by omega
      have HSN := Lib.hid hsn
      have HLN := Lib.hid hln
      have zn3 : n1.size ≤ 3145728 := by omega
      have zv3 : v1.size ≤ 3145728 := by omega
      have s1 : ¬ 9223372036854775807 < n1.size + 1 := by omega
      have s2 : ¬ 9223372036854775807 < n1.size + 1 + v1.size := by omega
      have hS : Ost w (.slice A0 k c0) G wr := ⟨HO.out, HB.out⟩
      have hSd := hS.drew
      have hX : ∀ w', Below w.heap.size w w' → w'.cell? (ad.add (k * 2)) = some (.string f.n) ∧ w'.cell? ⟨(ad.add (k * 2)).block, (ad.add (k * 2)).off + 1, none⟩ = some (.string f.v) := fun w' hb => by
        obtain ⟨ad', e1, _, t0, t1, _, _⟩ := pr_cell (HF1.out w' hb) hlt
        injection e1 with e1
        subst e1
        rw [hfe]; exact ⟨t0, t1⟩
      have HXX := Lib.hid hX
      obtain ⟨y0, y1⟩ := hX _ hSd.be
      have i1 : (k : Int) < (fs.length : Int) := by omega
      clear hX
      have HLL := Lib.hid hll
      clear hsn hln hn1 hv1 hG hfe hS HO hll
      go_wp2_with fail
      go_region_law (first
        | (refine step_ost rfl (.tmp 11) (.tmp 26) rfl (by assumption) (by rfl) _ (by rfl) (by omega) ?_; intro A1 c1' w5 hH5 hB5)
        | (go_simp; go_at_call 56; (with_reducible refine (CN.out _).mono ?_); rintro e w' ⟨rfl, hb'⟩; have hs' := Ost.step (by assumption) hb'; obtain ⟨q0, q1⟩ := HXX.out _ hs'.be; clear hb')
        | (go_simp; go_at_call 56; (with_reducible refine (CV.out _).mono ?_); rintro e w' ⟨rfl, hb'⟩; have hs' := Ost.step (by assumption) hb'; obtain ⟨q0, q1⟩ := HXX.out _ hs'.be; clear hb'))
      all_goals
        rw [HLL.out] at hH5
        have HS5 := Lib.hid hH5
        have HB5 := Lib.hid hB5
        have hgl := HLL.out
        clear hH5 hB5
        go_wp2_with fail
        go_roundw
        case rel => exact ⟨k + 1, by go_num, by omega, by rw [HSN.out, HLN.out]; exact HS5.out, HB5⟩
        case measure => simp [intOf]; omega
    · obtain rfl : k = fs.length := by omega
      rw [List.take_length] at HO hll
      have CJ := Joined_any A0 c0 (fs.map lineF) ⟨#[38]⟩ wr w.heap.size (by rw [hll]; exact HO.out) HJ.out
      rw [hll] at CJ
      have HTT : Hid (str (Lib.join (dl (fs.map lineF)) (⟨#[38]⟩ : ByteArray).data.toList) = T) := Lib.hid HT.out.symm
      rw [HTT.out] at CJ
      have CJ := Lib.hid CJ
      clear hll
      go_wp2_with fail
      refine CJ.out.mono ?_
      rintro e w2 ⟨rfl, rfl⟩
      go_wp2_with fail
      go_ret
      exact ⟨rfl, HB.out⟩
end
end Go.Proofs.YtnpjmaoidkofeaaDoor
