/- Threads at a place: the struct, its two slices. -/
import Derived.Test.YtckinkapbfaceaaPrgC
import Derived.Test.YtckinkapbfaceaaIntA
import Derived.Test.YtckinkapbfaceaaApp
namespace Go.Proofs.Ytckinkapbfaceaa
open Go.RowKit
set_option linter.unusedVariables false
set_option linter.unusedSimpArgs false

def nl (L : List Nat) : List Int := L.map fun n : Nat => (n : Int)
theorem nl_len (L : List Nat) : (nl L).length = L.length := by simp [nl]
theorem nl_app (L M : List Nat) : nl (L ++ M) = nl L ++ nl M := by simp [nl]
/-- the block b holds, from its head on, the N ints F -/
structure IRow (w : World) (b N : Nat) (F : Nat → Nat) : Prop where
  lt : b < w.heap.size
  cell : ∀ i, i < N → w.cell? ⟨b, i, none⟩ = some (.int .i64 (F i : Int))
  frozen : ∀ i, i < N → w.frozen? ⟨b, i, none⟩ = false
section
variable {w w' : World} {b N : Nat} {F : Nat → Nat}
theorem IRow.ofBlock (h : IRow w b N F) (hz : w.heap.size ≤ w'.heap.size) (e : w'.heap[b]? = w.heap[b]?) : IRow w' b N F :=
  ⟨Nat.lt_of_lt_of_le h.lt hz, fun i hi => (World.cell?_of_block (a := ⟨b, i, none⟩) e).trans (h.cell i hi), fun i hi => (World.frozen?_of_block (a := ⟨b, i, none⟩) e).trans (h.frozen i hi)⟩
theorem IRow.below {B : Nat} (h : IRow w b N F) (hb : Below B w w') (hB : b < B) : IRow w' b N F := h.ofBlock hb.size (hb.block b hB)
theorem IRow.kept (h : IRow w b N F) (hb : Below w.heap.size w w') : IRow w' b N F := h.below hb h.lt
theorem IRow.set_ (h : IRow w b N F) {k : Nat} (hk : k < N) (v : Nat) : IRow (w.setCell ⟨b, k, none⟩ (.int .i64 (v : Int))) b N (put F k v) := by
  refine ⟨by simpa [World.setCell] using h.lt, fun i hi => ?_, fun i hi => by rw [World.frozen?_setCell]; exact h.frozen i hi⟩
  unfold put
  by_cases e : i = k
  · subst e; rw [if_pos rfl]; exact World.cell?_setCell_same _ _ _ (h.cell i hi)
  · rw [if_neg e, World.cell?_setCell_other _ _ _ _ (by intro h; injection h; omega)]; exact h.cell i hi
theorem IRow.made (w : World) (n : Nat) : IRow (w.alloc (.cells (madeCells #[.int .i64 0] n) 3)) w.heap.size n (fun _ => 0) := by
  have h := World.rowIs_made w (.int .i64 0) n 3
  exact ⟨h.lt, fun i hi => h.cell hi, fun i _ => h.frozen i⟩
theorem grownBy_set (w : World) (p : Addr) (u : Value) : w.grownBy (w.setCell p u) (some p.block) :=
  ⟨rfl, rfl, rfl, by simp [World.setCell], fun k _ hne => Below.heap_setCell _ _ _ _ (fun e => hne (by rw [e]))⟩
theorem OI.far {B : Nat} {v : Value} {l : List Int} (h : OI w B v l) {p : Addr} (hp : v.ownBlock ≠ some p.block) (u : Value) : OI (w.setCell p u) B v l := World.ownsRow.kept (row := some p.block) h (grownBy_set w p u) (.inr hp)
theorem OI.grew {B : Nat} {v v1 v2 : Value} {l : List Int} (h : OI w B v l) (k : Grew w w' v1 v2) (hne : ∀ g, v1.ownBlock = some g → v.ownBlock ≠ some g) : OI w' B v l := by
  refine World.ownsRow.kept h k.grown ?_
  cases e : v.ownBlock with
  | none => exact .inl rfl
  | some g => exact .inr fun h => hne g h.symm e
theorem OI.at_ {B : Nat} {L : List Nat} {g c n : Nat} (h : OI w B (.slice (some ⟨g, 0, none⟩) n c) (nl L)) {k : Nat} (hk : k < L.length) : w.cell? ⟨g, k, none⟩ = some (.int .i64 (L[k] : Int)) := by
  have := World.ownsRow.cells h (g := g) rfl k (.int .i64 (L[k] : Int)) (by simp [nl, iv, List.getElem?_eq_getElem hk])
  have hadd : (⟨g, 0, none⟩ : Addr).add k = ⟨g, k, none⟩ := by unfold Addr.add; split <;> simp_all
  rwa [hadd] at this
theorem OI.lt_ {B : Nat} {v : Value} {l : List Int} (h : OI w B v l) : ∀ g, v.ownBlock = some g → B ≤ g ∧ g < w.heap.size := World.ownsRow.lt h
theorem OI.formAt {B : Nat} {v : Value} {L : List Nat} (h : OI w B v (nl L)) (hl : 0 < L.length) : ∃ g c, v = .slice (some ⟨g, 0, none⟩) L.length c ∧ L.length ≤ c ∧ c ≤ 9223372036854775807 := by
  rcases h.2 with ⟨rfl, h2⟩ | ⟨g, c, cur, rfl, hb, hh, h3, h4, _⟩
  · rw [nl_len] at h2; omega
  · rw [nl_len] at h3 ⊢
    exact ⟨g, c, rfl, h3, by unfold maxLen at h4; omega⟩
theorem OI.pop {B g c n t : Nat} {L : List Nat} (h : OI w B (.slice (some ⟨g, 0, none⟩) n c) (nl (L ++ [t]))) (hn : n = L.length + 1) : OI w B (.slice (some ⟨g, 0, none⟩) L.length c) (nl L) := by
  subst hn
  unfold OI at h ⊢
  rw [nl_len, List.length_append, List.length_singleton, nl_app, List.map_append] at h
  rw [nl_len]
  exact ownsRow_pop (by rw [List.length_map, nl_len]; omega) h
theorem OI.one (w : World) (t : Nat) {B : Nat} (hB : B ≤ w.heap.size) : OI (w.alloc (.cells #[.int .i64 (t : Int)] 3)) B (.slice (some ⟨w.heap.size, 0, none⟩) 1 1) (nl [t]) :=
  ⟨rfl, .inr ⟨w.heap.size, 1, _, rfl, hB, heap_alloc_new w _, by rw [nl_len]; simp, by unfold maxLen; omega, rfl, rfl⟩⟩
/-- append of new ints that lie in a block just made; the other blocks are kept -/
theorem wpL_appN {B : Nat} {v : Value} {l : List Int} {ops : Array Oper} {rest : List Oper} {o : Oper} {a : Act} {Q : Exit → Act → World → Prop} (hgd : o.guard = none) (s x : Operand)
    (ho : o.op = .call { callee := .builtin .append, args := #[s, x], argTypes := #[84, 84] })
    (h : OI w B v l) (hs : a.eval s = v) (vals : List Value) (ns : List Int) (hv : vals = ns.map iv) (m c : Nat)
    (hx : a.eval x = .slice (some ⟨w.heap.size, 0, none⟩) m c) (hm : ns.length = m) (hlen : l.length + m ≤ 1000000) (hB : B ≤ w.heap.size)
    (hK : ∀ v' w', OI w' B v' (l ++ ns) → Grew w w' v v' → wpList Try.prog ops Q rest (a.put o.dst v') w') :
    wpList Try.prog ops Q (o :: rest) a (w.alloc (.cells vals.toArray 3)) := by
  obtain ⟨i0, hi, hz0, hz1, hz2⟩ := info_parts infoInt
  subst hm
  refine wpL_appG hgd s x ho Try.underlying84 hi hz0 hz1 hz2 rfl (by decide) h hs vals ns.length c hx (by rw [hv]; simp) (by
    intro u hu
    rw [hv] at hu
    obtain ⟨b, _, rfl⟩ := List.mem_map.1 hu
    rfl) (by unfold maxLen; omega) (by omega) hB fun v' w' h2 h3 => hK v' w' ?_ h3
  unfold OI
  rw [List.length_append, List.map_append, ← hv]
  exact h2
end

/-- the threads in the block fb + 1, their places in the block fb -/
structure Thr (w : World) (fb N : Nat) (A : Option Addr) (c : Nat) (s : ByteArray) (F : Nat → Nat) (lv : Value) (L : List Nat) : Prop where
  st : Blk w (fb + 1) 138 #[.slice A N c, .string s, .slice (some ⟨fb, 0, none⟩) N N, lv]
  row : IRow w fb N F
  lo : OI w (fb + 2) lv (nl L)
/-- add under way from the world w on -/
structure AdW (w wr : World) (fb N : Nat) (A : Option Addr) (c : Nat) (s : ByteArray) (F : Nat → Nat) (lv : Value) (L : List Nat) (tv : Value) (T : List Nat) : Prop where
  th : Thr wr fb N A c s F lv L
  to : OI wr w.heap.size tv (nl T)
  ne : ∀ g, lv.ownBlock = some g → tv.ownBlock ≠ some g
  be : Below fb w wr
  fz : fb + 2 ≤ w.heap.size
section
variable {w wr w' : World} {fb N : Nat} {A : Option Addr} {c : Nat} {s : ByteArray} {F : Nat → Nat} {lv lv' tv tv' : Value} {L L' T T' : List Nat}
theorem Thr.below {B : Nat} (h : Thr w fb N A c s F lv L) (hb : Below w.heap.size w w') : Thr w' fb N A c s F lv L :=
  ⟨h.st.below hb h.st.lt, h.row.kept hb, h.lo.kept hb⟩
theorem AdW.start (h : Thr w fb N A c s F lv L) (n : Nat) : AdW w (w.alloc (.cells #[.int .i64 (n : Int)] 3)) fb N A c s F lv L (.slice (some ⟨w.heap.size, 0, none⟩) 1 1) [n] :=
  have hb : Below w.heap.size w (w.alloc (.cells #[.int .i64 (n : Int)] 3)) := (Below.refl _ _).alloc (Nat.le_refl _) _
  have hlt := h.st.lt
  ⟨h.below (B := 0) hb, OI.one w n (Nat.le_refl _), fun g hg e => by
    have := (h.lo.lt_ g hg).2
    have e := Option.some.inj e
    simp only at e; omega, hb.mono (by omega), by omega⟩
theorem AdW.kept (h : AdW w wr fb N A c s F lv L tv T) (hb : Below wr.heap.size wr w') : AdW w w' fb N A c s F lv L tv T :=
  ⟨h.th.below (B := 0) hb, h.to.kept hb, h.ne, h.be.trans (hb.mono (by have := h.fz; have := h.be.size; omega)), h.fz⟩
theorem AdW.mark (h : AdW w wr fb N A c s F lv L tv T) {t : Nat} (ht : t < N) (v : Nat) : AdW w (wr.setCell ⟨fb, t, none⟩ (.int .i64 (v : Int))) fb N A c s (put F t v) lv L tv T :=
  have hs := h.be.size
  have hz := h.fz
  ⟨⟨h.th.st.far (by show fb + 1 ≠ fb; omega) _, h.th.row.set_ ht v, h.th.lo.far (fun e => by have := (h.th.lo.lt_ _ e).1; simp at this; omega) _⟩,
    h.to.far (fun e => by have := (h.to.lt_ _ e).1; simp at this; omega) _, h.ne, h.be.setCell (p := ⟨fb, t, none⟩) (Nat.le_refl _) _, h.fz⟩
theorem AdW.pop {g k cc t : Nat} (h : AdW w wr fb N A c s F lv L (.slice (some ⟨g, 0, none⟩) k cc) (T ++ [t])) (hk : k = T.length + 1) : AdW w wr fb N A c s F lv L (.slice (some ⟨g, 0, none⟩) T.length cc) T :=
  ⟨h.th, h.to.pop hk, h.ne, h.be, h.fz⟩
theorem AdW.list (h : AdW w wr fb N A c s F lv L tv T) (hg : Grew wr w' lv lv') (ho : OI w' (fb + 2) lv' (nl L')) : AdW w (w'.setCell ⟨fb + 1, 3, none⟩ lv') fb N A c s F lv' L' tv T := by
  have hs := h.be.size
  have hz := h.fz
  have h1 : ∀ g, lv.ownBlock = some g → fb + 2 ≤ g := fun g e => (h.th.lo.lt_ g e).1
  have hto := h.to.grew hg h.ne
  refine ⟨⟨?_, ?_, ?_⟩, ?_, fun g e => ?_, ?_, hz⟩
  · have := (hg.blk h.th.st (fun e => by have := h1 _ e; omega)).set_ 3 lv'
    exact this
  · have := h.th.row.ofBlock hg.grown.size (hg.grown.block fb h.th.row.lt (fun e => by have := h1 _ e.symm; omega))
    exact this.ofBlock (by simp [World.setCell]) (Below.heap_setCell _ _ _ _ (by show fb ≠ fb + 1; omega))
  · exact ho.far (fun e => by have h2 : fb + 2 ≤ fb + 1 := (ho.lt_ _ e).1; omega) _
  · exact hto.far (fun e => by have := (hto.lt_ _ e).1; simp at this; omega) _
  · rcases hg.home with k | ⟨x, k, hx⟩
    · rw [k] at e; exact h.ne g e
    · rw [k] at e; injection e with e
      intro e2
      have := (h.to.lt_ g e2).2; omega
  · exact (h.be.trans (hg.below (by omega) fun g e => by have := h1 g e; omega)).setCell (p := ⟨fb + 1, 3, none⟩) (by show fb ≤ fb + 1; omega) _
theorem AdW.more (h : AdW w wr fb N A c s F lv L tv T) (hg : Grew wr w' tv tv') (ho : OI w' w.heap.size tv' (nl T')) : AdW w w' fb N A c s F lv L tv' T' := by
  have hs := h.be.size
  have hz := h.fz
  have h1 : ∀ g, tv.ownBlock = some g → w.heap.size ≤ g := fun g e => (h.to.lt_ g e).1
  refine ⟨⟨hg.blk h.th.st (fun e => by have := h1 _ e; omega), h.th.row.ofBlock hg.grown.size (hg.grown.block fb h.th.row.lt (fun e => by have := h1 _ e.symm; omega)), h.th.lo.grew hg fun g e e2 => h.ne g e2 e⟩, ho, fun g e => ?_, ?_, hz⟩
  · rcases hg.home with k | ⟨x, k, hx⟩
    · rw [k]; exact h.ne g e
    · rw [k]; intro e2; injection e2 with e2
      have := (h.th.lo.lt_ g e).2; omega
  · exact h.be.trans (hg.below (by omega) fun g e => by have := h1 g e; omega)
/-- append to the list; the store into the struct is still to come -/
theorem AdW.wpList {ops : Array Oper} {rest : List Oper} {o : Oper} {a : Act} {Q : Exit → Act → World → Prop} (hgd : o.guard = none) (sl x : Operand)
    (ho : o.op = .call { callee := .builtin .append, args := #[sl, x], argTypes := #[84, 84] })
    (h : AdW w wr fb N A c s F lv L tv T) (hs : a.eval sl = lv) (t : Nat) (hx : a.eval x = .slice (some ⟨wr.heap.size, 0, none⟩) 1 1) (hlen : L.length ≤ 10000)
    (hK : ∀ A2 c3 w2, w2.cell? ⟨fb + 1, 3, none⟩ = some lv → w2.frozen? ⟨fb + 1, 3, none⟩ = false → AdW w (w2.setCell ⟨fb + 1, 3, none⟩ (.slice A2 (L.length + 1) c3)) fb N A c s F (.slice A2 (L.length + 1) c3) (L ++ [t]) tv T →
      Go.wpList Try.prog ops Q rest (a.put o.dst (.slice A2 (L.length + 1) c3)) w2) :
    Go.wpList Try.prog ops Q (o :: rest) a (wr.alloc (.cells [Value.int .i64 (t : Int)].toArray 3)) := by
  have hz := h.fz
  have hz2 := h.be.size
  have hlt := h.th.st.lt
  refine wpL_appN hgd sl x ho h.th.lo hs [.int .i64 (t : Int)] (nl [t]) rfl 1 1 hx rfl (by rw [nl_len]; omega) (by omega) fun v' w2 ho2 hg2 => ?_
  obtain ⟨A2, c3, rfl⟩ := ho2.form
  have hst := hg2.blk h.th.st (fun e => by have := (h.th.lo.lt_ _ e).1; omega)
  have e2 : (nl L ++ nl [t]).length = L.length + 1 := by rw [List.length_append, nl_len, nl_len, List.length_singleton]
  rw [e2] at ho2 hg2 ⊢
  rw [← nl_app] at ho2
  exact hK A2 c3 w2 (hst.cell 3) (hst.frozen 3) (h.list hg2 ho2)
/-- append to what is to do -/
theorem AdW.wpTodo {ops : Array Oper} {rest : List Oper} {o : Oper} {a : Act} {Q : Exit → Act → World → Prop} (hgd : o.guard = none) (sl x : Operand)
    (ho : o.op = .call { callee := .builtin .append, args := #[sl, x], argTypes := #[84, 84] })
    (h : AdW w wr fb N A c s F lv L tv T) (hs : a.eval sl = tv) (vals : List Value) (M : List Nat) (hv : vals = (nl M).map iv) (m cp : Nat) (hm : M.length = m) (hx : a.eval x = .slice (some ⟨wr.heap.size, 0, none⟩) m cp) (hlen : T.length + m ≤ 10000)
    (hK : ∀ v' w2, AdW w w2 fb N A c s F lv L v' (T ++ M) → Go.wpList Try.prog ops Q rest (a.put o.dst v') w2) :
    Go.wpList Try.prog ops Q (o :: rest) a (wr.alloc (.cells vals.toArray 3)) := by
  have hz := h.fz
  have hz2 : w.heap.size ≤ wr.heap.size := h.be.size
  refine wpL_appN hgd sl x ho h.to hs vals (nl M) hv m cp hx (by rw [nl_len]; exact hm) (by rw [nl_len]; omega) hz2 fun v' w2 ho2 hg2 => ?_
  rw [← nl_app] at ho2
  exact hK v' w2 (h.more hg2 ho2)
end
end Go.Proofs.Ytckinkapbfaceaa
