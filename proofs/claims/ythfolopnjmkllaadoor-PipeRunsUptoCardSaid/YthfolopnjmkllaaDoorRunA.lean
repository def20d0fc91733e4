/- Pipes at work (P11), plainly: what each step makes, how long it is. Walk: strconv.Itoa. -/
import Derived.Test.YthfolopnjmkllaaDoorPipK
import Derived.Test.YthfolopnjmkllaaDoorClnD
import Derived.Test.YthfolopnjmkllaaDoorClnI
import Derived.Test.YthfolopnjmkllaaDoorHexC
import Derived.Test.YthfolopnjmkllaaDoorB64G
import Derived.Test.YthfolopnjmkllaaDoorHtmD
import Derived.Test.YthfolopnjmkllaaDoorTrm
import Derived.Lib.ItoaLen
import Derived.Lib.AppendIntMem
import Derived.Shelf.Unicode.PredsPay
namespace Go.Proofs.YthfolopnjmkllaaDoor
open Go.RowKit
set_option linter.unusedVariables false
set_option linter.unusedSimpArgs false

/-- the table of powers of ten -/
def TabP (w : World) : Prop := Lib.TabIs Tryd.prog w "internal/strconv.uint64pow10" .u64 Lib.pow10Tab
theorem TabP.below {w w' : World} (h : TabP w) (hb : Below w.heap.size w w') : TabP w' := TabIs_below (g := 1) (by kernel_rfl) h hb
def itS (n : Nat) : ByteArray := str (Lib.itoa n)
theorem itoaS_any (n : Nat) (w : World) (hn : n ≤ 9223372036854775807) (hT : TabP w) :
    Calls Tryd.prog 21 #[.int .i64 n] w fun e w' => e = .returned (.string (itS n)) ∧ Below w.heap.size w w' :=
  (Tryd.strconv_Itoa n (by omega) (by omega) w hT).mono fun e w' ⟨h1, k, os, h2⟩ => ⟨h1, by rw [h2]; exact Lib.below_grow _ _ (Nat.le_refl _) k os⟩
/-- one step -/
def oneF (k : Int) (s : ByteArray) : ByteArray :=
  if k = 1 then str (s.data.toList.map lowB)
  else if k = 2 then str (decL urlF s.data.toList)
  else if k = 3 then (if hexDE s.data.toList = 0 then str (hexDS s.data.toList) else s)
  else if k = 4 then (if (decB s.data.toList).2 = 0 then str (decB s.data.toList).1 else s)
  else if k = 5 then str (decL htmF s.data.toList)
  else if k = 6 then str (pathF s)
  else if k = 7 then str (sqz s.data.toList s.size)
  else if k = 8 then str (wo [0] s.data.toList s.size)
  else if k = 9 then str (trimL s.data.toList)
  else if k = 10 then itS s.size
  else str (cmdF s.data.toList)
def runF (zs : List Int) (s : ByteArray) : ByteArray := zs.foldl (fun t z => oneF z t) s
theorem runF_take {zs : List Int} {s : ByteArray} {k : Nat} (h : k < zs.length) : runF (zs.take (k + 1)) s = oneF zs[k] (runF (zs.take k) s) := by
  unfold runF; rw [List.take_succ_eq_append_getElem h, List.foldl_append]; rfl
/-! how long -/
theorem decL_leN (f : List UInt8 → UInt8 × Nat) : ∀ (n : Nat) (l : List UInt8), l.length ≤ n → (decL f l).length ≤ l.length
  | _, [], _ => by rw [decL_nil]; exact Nat.le_refl _
  | 0, c :: r, h => by simp at h
  | n + 1, c :: r, h => by
    have h2 : (r.drop ((f (c :: r)).2 - 1)).length ≤ n := by rw [List.length_drop]; rw [List.length_cons] at h; omega
    have := decL_leN f n _ h2
    rw [decL_cons, List.length_cons, List.length_cons]
    rw [List.length_drop] at this
    omega
theorem hexD_le : ∀ (n : Nat) (l x : List UInt8), l.length ≤ n → hexD l = some x → x.length ≤ l.length
  | _, [], x, _, h => by rw [hexD] at h; cases h; exact Nat.le_refl _
  | _, [_], x, _, h => by rw [hexD] at h; cases h
  | 0, a :: b :: r, x, hn, h => by simp at hn
  | n + 1, a :: b :: r, x, hn, h => by
    rw [hexD] at h
    split at h
    · cases hr : hexD r with
      | none => rw [hr] at h; cases h
      | some y =>
        rw [hr] at h
        cases h
        have := hexD_le n r y (by simp at hn; omega) hr
        rw [List.length_cons, List.length_cons, List.length_cons]; omega
    · cases h
theorem stepD_le (st : Nat × Nat × List UInt8) (v : Nat) : (stepD st v).2.2.length ≤ st.2.2.length + 1 := by
  unfold stepD; split <;> simp
theorem foldD_le : ∀ (V : List Nat) (st : Nat × Nat × List UInt8), (foldD st V).2.2.length ≤ st.2.2.length + V.length
  | [], st => Nat.le_refl _
  | v :: V, st => by
    have h1 := stepD_le st v
    have h2 := foldD_le V (stepD st v)
    have e : foldD st (v :: V) = foldD (stepD st v) V := rfl
    rw [e, List.length_cons]; omega
theorem decB_le (l : List UInt8) : (decB l).1.length ≤ l.length := by
  unfold decB
  split
  · exact Nat.zero_le _
  · split
    · exact Nat.zero_le _
    · split
      · exact Nat.zero_le _
      · have h1 := foldD_le (sxs (bodyE l)) (0, 0, [])
        have h2 := sxs_len (bodyE l)
        have h3 := bodyE_le l
        simp only [List.length_nil] at h1 ⊢
        omega
theorem trimL_leL (l : List UInt8) : (trimL l).length ≤ l.length := by
  have hd : ∀ m : List UInt8, (m.dropWhile wsB).length ≤ m.length := fun m => (List.dropWhile_sublist wsB).length_le
  unfold trimL rtrimL ltrimL
  have h1 := hd l
  have h2 := hd (l.dropWhile wsB).reverse
  rw [List.length_reverse] at h2
  simp only [List.length_reverse]
  omega
def sumP (vs : List ByteArray) : Nat := (vs.map fun v => v.size + 1).sum
theorem sumP_app (a b : List ByteArray) : sumP (a ++ b) = sumP a + sumP b := by unfold sumP; rw [List.map_append, List.sum_append]
theorem sumP_take (a : List ByteArray) (n : Nat) : sumP (a.take n) ≤ sumP a := by
  conv => rhs; rw [← List.take_append_drop n a]
  rw [sumP_app]; omega
theorem pcs_sum (t : ByteArray) (h1 : t.size = 1) : ∀ (n : Nat) (s : ByteArray), s.size ≤ n → sumP (pcs s t) = s.size + 1
  | n, s, hn => by
    rcases Lib.indexB_cases s t with h | ⟨i, h, hr⟩
    · rw [pcs_miss h]; simp [sumP]
    · rw [pcs_hit (by omega) h]
      have e2 : (s.extract (i + t.size) s.size).size = s.size - (i + t.size) := by rw [ByteArray.size_extract]; omega
      have e1 : (s.extract 0 i).size = i := by rw [ByteArray.size_extract]; omega
      have e3 : sumP (s.extract 0 i :: pcs (s.extract (i + t.size) s.size) t) = (s.extract 0 i).size + 1 + sumP (pcs (s.extract (i + t.size) s.size) t) := by simp [sumP]
      rw [e3, e1]
      match n with
      | 0 => omega
      | n + 1 => rw [pcs_sum t h1 n _ (by omega), e2]; omega
theorem stepP_sum (rt : Bool) (D : List ByteArray) (p : ByteArray) : sumP (stepP rt D p) ≤ sumP D + (p.size + 1) := by
  unfold stepP
  split
  · omega
  · split
    · rename_i h
      have hp : p.size = 2 := by rw [← lst_len, h]; rfl
      split
      · have := sumP_take D (D.length - 1); omega
      · split
        · omega
        · rw [sumP_app]; have : sumP [(⟨#[46, 46]⟩ : ByteArray)] = 3 := rfl; omega
    · rw [sumP_app]; have : sumP [p] = p.size + 1 := by simp [sumP]
      omega
theorem leftK_sum (rt : Bool) (ps : List ByteArray) : ∀ k, k ≤ ps.length → sumP (leftK rt ps k) ≤ sumP (ps.take k)
  | 0, _ => Nat.zero_le _
  | k + 1, h => by
    have h1 := leftK_sum rt ps k (by omega)
    have h2 := stepP_sum rt (leftK rt ps k) (ps.getD k sl47)
    rw [leftK, List.take_succ_eq_append_getElem (by omega), sumP_app]
    have e : ps.getD k sl47 = ps[k] := by rw [List.getD, List.getElem?_eq_getElem (by omega)]; rfl
    rw [e] at h2 ⊢
    have : sumP [ps[k]] = ps[k].size + 1 := by simp [sumP]
    omega
theorem joinT_le (t : List UInt8) (h : t.length = 1) : ∀ xs : List ByteArray, (Lib.joinTail t (dl xs)).length ≤ sumP xs
  | [] => by simp [dl, Lib.joinTail]
  | x :: xs => by
    have h2 := joinT_le t h xs
    have e : sumP (x :: xs) = x.size + 1 + sumP xs := by simp [sumP]
    have e2 : (x.data.toList).length = x.size := lst_len x
    simp only [dl, List.map_cons, Lib.joinTail, List.length_append, List.flatten_cons] at h2 ⊢
    rw [e]
    omega
theorem joinP_le (t : List UInt8) (h : t.length = 1) (xs : List ByteArray) : (Lib.join (dl xs) t).length ≤ sumP xs := by
  cases xs with
  | nil => simp [dl, Lib.join_nil]
  | cons x xs =>
    have h2 := joinT_le t h xs
    have e : sumP (x :: xs) = x.size + 1 + sumP xs := by simp [sumP]
    have e2 : (x.data.toList).length = x.size := lst_len x
    show (Lib.join (x.data.toList :: dl xs) t).length ≤ _
    rw [Lib.join_cons, List.length_append, e]
    omega
theorem pathF_le (s : ByteArray) : (pathF s).length ≤ s.size + 3 := by
  have h1 := leftK_sum (Lib.hasPrefix s.data.toList [47]) (pcs s sl47) (pcs s sl47).length (Nat.le_refl _)
  rw [List.take_length, pcs_sum sl47 rfl s.size s (Nat.le_refl _)] at h1
  have h2 := joinP_le [47] rfl (leftK (Lib.hasPrefix s.data.toList [47]) (pcs s sl47) (pcs s sl47).length)
  unfold pathF
  dsimp only
  rw [List.length_append, List.length_append]
  have h3 : ∀ b : Bool, (if b = true then [47] else ([] : List UInt8)).length ≤ 1 := fun b => by cases b <;> simp
  have a1 := h3 (Lib.hasPrefix s.data.toList [47])
  have a2 := h3 (addSl (leftK (Lib.hasPrefix s.data.toList [47]) (pcs s sl47) (pcs s sl47).length) (pcs s sl47))
  omega
theorem cmdF_le (l : List UInt8) : (cmdF l).length ≤ l.length := by
  have h1 := cm2_le (cmdQ l) (cmdQ l).length
  have h2 := (cmd_le l).2
  unfold cmdF
  rw [List.length_map]; omega
theorem oneF_le (k : Int) (s : ByteArray) {N : Nat} (hN : 21 ≤ N) (hs : s.size ≤ N) (hs2 : N ≤ 1000000) : (oneF k s).size ≤ N + 3 := by
  have hl := lst_len s
  unfold oneF
  split
  · rw [size_str, List.length_map]; omega
  split
  · rw [size_str]; have := decL_leN urlF _ s.data.toList (Nat.le_refl _); omega
  split
  · split
    · rw [size_str]
      unfold hexDS
      cases h : hexD s.data.toList with
      | none => exact Nat.zero_le _
      | some x => have := hexD_le _ _ x (Nat.le_refl _) h; show x.length ≤ _; omega
    · omega
  split
  · split
    · rw [size_str]; have := decB_le s.data.toList; omega
    · omega
  split
  · rw [size_str]; have := decL_leN htmF _ s.data.toList (Nat.le_refl _); omega
  split
  · rw [size_str]; have := pathF_le s; omega
  split
  · rw [size_str]; have := sqz_le s.data.toList s.size; omega
  split
  · rw [size_str]; have := wo_le [0] s.data.toList s.size; omega
  split
  · rw [size_str]; have := trimL_leL s.data.toList; omega
  split
  · unfold itS; rw [size_str]; have := Lib.itoa_length_le (s.size : Int) (by omega) (by omega); omega
  · rw [size_str]; have := cmdF_le s.data.toList; omega
theorem runF_size (zs : List Int) (s : ByteArray) (hs : s.size ≤ 8192) (hz : zs.length ≤ 8) : ∀ k : Nat, (runF (zs.take k) s).size ≤ 8192 + 3 * min k 8
  | 0 => by rw [List.take_zero]; show s.size ≤ _; omega
  | k + 1 => by
    have ih := runF_size zs s hs hz k
    by_cases h : k < zs.length
    · rw [runF_take h]
      have := oneF_le zs[k] (runF (zs.take k) s) (N := 8192 + 3 * min k 8) (by omega) ih (by omega)
      omega
    · rw [List.take_of_length_le (by omega)]
      rw [List.take_of_length_le (by omega)] at ih
      omega
theorem pipE_all2 {zs : List Int} (h : pipE zs = 0) : zs.length ≤ 8 ∧ ∀ k (hk : k < zs.length), 1 ≤ zs[k] ∧ zs[k] ≤ 11 := by
  unfold pipE at h
  split at h
  · cases h
  · rename_i h8
    split at h
    · rename_i ha
      refine ⟨by omega, fun k hk => ?_⟩
      have := List.all_eq_true.1 ha zs[k] (List.getElem_mem hk)
      exact of_decide_eq_true this
    · cases h
end Go.Proofs.YthfolopnjmkllaaDoor
