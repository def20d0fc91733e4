/- wicklaw.HeadSays: for all heads and names of bulk at most 1048576 Check, Print and Get return what the reference returns. Condition: that bulk. -/
import Derived.Test.YtckinkapbfaceaaFrmB
import Derived.Test.YtckinkapbfaceaaHedC
import Derived.Test.YtckinkapbfaceaaHedD
import Derived.Test.YtckinkapbfaceaaHedE
import Derived.Test.YtckinkapbfaceaaHedF
import Derived.Deep.RegionHeld3
namespace Go.Proofs.Ytckinkapbfaceaa.lawHead
open Go.ChangeShapes Go.WideShapes Go.ChangeAt Go.RowKit Go.Joins Go.Deep
open Go.ChangeMaps (open_string shut_string)
set_option linter.unusedVariables false
set_option linter.unusedSimpArgs false

/-- under way: the box of the head, its fields -/
structure St (w : World) (bx B : Nat) (m t : ByteArray) (A : Option Addr) (cap : Nat) (fs : List Fd) (w' : World) : Prop where
  below : Below w.heap.size w w'
  blk : Blk w' bx 66 #[.string m, .string t, .slice A fs.length cap]
  fds : FdR w' B A cap fs
  le : B ≤ w'.heap.size
section
variable {w w1 w2 : World} {bx B : Nat} {m t : ByteArray} {A : Option Addr} {cap : Nat} {fs : List Fd}
theorem St.step (h : St w bx B m t A cap fs w1) (hb : Below w1.heap.size w1 w2) : St w bx B m t A cap fs w2 :=
  ⟨h.below.trans (hb.mono h.below.size), h.blk.below hb h.blk.lt, h.fds.below (hb.mono h.le), Nat.le_trans h.le hb.size⟩
theorem St.drewN (h : St w bx B m t A cap fs w1) (n : Nat) : St w bx B m t A cap fs (w1.drewN n) := ⟨below_drewN h.below n, h.blk.drewN n, h.fds.keep fun _ _ => rfl, h.le⟩
theorem St.drew (h : St w bx B m t A cap fs w1) : St w bx B m t A cap fs w1.drew := ⟨h.below.drew, h.blk.drew, h.fds.keep fun _ _ => rfl, h.le⟩
end
section
variable (m t name : ByteArray) (fs : List Fd) (A : Option Addr) (cap : Nat) (w : World)
set_option maxRecDepth 100000 in
set_option maxHeartbeats 4000000 in
theorem walk_bad (hm : m.size ≤ 1048576) (ht : t.size ≤ 1048576) (hn : name.size ≤ 1048576) (hf : FdR w w.heap.size A cap fs) (hfl : fs.length ≤ 1048576) (h0 : ¬ hdE ⟨m, t, fs⟩ = 0) :
    Calls Try.prog 7 #[.agg #[.string m, .string t, .slice A fs.length cap], .string name] w fun e w' => e = .returned (.bool true) ∧ Below w.heap.size w w' := by
  obtain ⟨W, hW⟩ : ∃ W, W = w.alloc (.cells #[.string m, .string t, .slice A fs.length cap] 66) := ⟨_, rfl⟩
  have hS0 : St w w.heap.size w.heap.size m t A cap fs W := by
    rw [hW]; exact ⟨(Below.refl _ _).alloc (Nat.le_refl _) _, Blk.new _ _ _, hf.alloc (Nat.le_refl _) _, by simp⟩
  have CK := Lib.hid fun w' (h : St w w.heap.size w.heap.size m t A cap fs w') => headCheck_any m t fs A cap w.heap.size w' hm ht h.fds h.le
  have CH := Lib.hid fun w' (h : St w w.heap.size w.heap.size m t A cap fs w') => refHead_any m t fs A cap w.heap.size w' hm ht h.fds h.le
  have CG := Lib.hid fun w' (h : St w w.heap.size w.heap.size m t A cap fs w') => get_any m t name fs A cap w.heap.size w' hn h.fds hfl h.le
  have CR := Lib.hid fun w' (h : St w w.heap.size w.heap.size m t A cap fs w') => Get_any m t name fs A cap w.heap.size w' hn h.fds hfl h.le
  have CP := Lib.hid fun w' (h : St w w.heap.size w.heap.size m t A cap fs w') => print_bad m t fs A cap w.heap.size w' hm ht h.fds h.le h0
  obtain ⟨E, hE⟩ : ∃ E, E = hdE ⟨m, t, fs⟩ := ⟨_, rfl⟩
  rw [← hE] at CK CH CP h0
  have e0 : (E == 0) = false := by rw [beq_eq_false_iff_ne]; exact h0
  clear hE h0
  obtain ⟨G, hG⟩ : ∃ G, G = getL fs name := ⟨_, rfl⟩
  rw [← hG] at CG CR
  have HS : Hid (∀ w', St w w.heap.size w.heap.size m t A cap fs w' → w'.cell? ⟨w.heap.size, 0, none⟩ = some (.string m) ∧ w'.cell? ⟨w.heap.size, 1, none⟩ = some (.string t) ∧ w'.cell? ⟨w.heap.size, 2, none⟩ = some (.slice A fs.length cap)) := fun w' h => ⟨h.blk.cell 0, h.blk.cell 1, h.blk.cell 2⟩
  have HW := Lib.hid hW
  have HS0 := Lib.hid hS0
  clear hW hS0 hf hG
  go_enter Try.func7, Try.ntmps7
  go_wp2_with fail
  rw [← HW.out]
  refine (CH.out _ HS0.out).mono ?_
  rintro e w1 ⟨rfl, hb1⟩
  have HS1 := Lib.hid (HS0.out.step hb1)
  obtain ⟨k0, k1, k2⟩ := HS.out _ HS1.out
  clear hb1 HS0
  go_wp2_with fail
  refine (CP.out _ HS1.out).mono ?_
  rintro e w3 ⟨rfl, hb3⟩
  have HS3 := Lib.hid (HS1.out.step hb3)
  clear k0 k1 k2
  obtain ⟨k0, k1, k2⟩ := HS.out _ HS3.out
  clear hb3 HS1
  go_wp2_with fail
  have hS3 := HS3.out.drew
  clear HS3
  go_region_held3 (fun w' => w'.cell? ⟨w.heap.size, 0, none⟩ = some (.string m) ∧ w'.cell? ⟨w.heap.size, 1, none⟩ = some (.string t) ∧ w'.cell? ⟨w.heap.size, 2, none⟩ = some (.slice A fs.length cap)) (exact HS.out _ (by assumption))
    (first
      | (go_at_call 31; refine (CK.out _ (by assumption)).mono ?_; rintro e w' ⟨rfl, hb'⟩; have hs' := St.step (by assumption) hb')
      | (go_at_call 33; refine (CG.out _ (by assumption)).mono ?_; rintro e w' ⟨v', rfl, ho', hb'⟩; have hs' := St.step (by assumption) hb'; (try have hk' := OS.kept (by assumption) hb'); obtain ⟨A', c', rfl⟩ := ho'.form)
      | (go_at_call 34; refine (CR.out _ (by assumption)).mono ?_; rintro e w' ⟨v', rfl, ho', hb'⟩; have hs' := St.step (by assumption) hb'; (try have hk' := OS.kept (by assumption) hb'); obtain ⟨A', c', rfl⟩ := ho'.form)
      | (go_at_call 32; refine (eqS_any _ _ _ _ _ _ _ _ (by assumption) (by assumption)).mono ?_; rintro e w' ⟨rfl, q', rfl⟩; have hs' := St.drewN (by assumption) q'))
  all_goals go_wp2_with fail
  all_goals go_ret
  all_goals exact ⟨rfl, (by assumption : St w _ _ _ _ _ _ _ _).below⟩
set_option maxRecDepth 100000 in
set_option maxHeartbeats 4000000 in
theorem walk_ok (hm : m.size ≤ 1048576) (ht : t.size ≤ 1048576) (hn : name.size ≤ 1048576) (hf : FdR w w.heap.size A cap fs) (hfl : fs.length ≤ 1048576) (h0 : hdE ⟨m, t, fs⟩ = 0) :
    Calls Try.prog 7 #[.agg #[.string m, .string t, .slice A fs.length cap], .string name] w fun e w' => e = .returned (.bool true) ∧ Below w.heap.size w w' := by
  obtain ⟨W, hW⟩ : ∃ W, W = w.alloc (.cells #[.string m, .string t, .slice A fs.length cap] 66) := ⟨_, rfl⟩
  have hS0 : St w w.heap.size w.heap.size m t A cap fs W := by
    rw [hW]; exact ⟨(Below.refl _ _).alloc (Nat.le_refl _) _, Blk.new _ _ _, hf.alloc (Nat.le_refl _) _, by simp⟩
  have CK := Lib.hid fun w' (h : St w w.heap.size w.heap.size m t A cap fs w') => headCheck_any m t fs A cap w.heap.size w' hm ht h.fds h.le
  have CH := Lib.hid fun w' (h : St w w.heap.size w.heap.size m t A cap fs w') => refHead_any m t fs A cap w.heap.size w' hm ht h.fds h.le
  have CG := Lib.hid fun w' (h : St w w.heap.size w.heap.size m t A cap fs w') => get_any m t name fs A cap w.heap.size w' hn h.fds hfl h.le
  have CR := Lib.hid fun w' (h : St w w.heap.size w.heap.size m t A cap fs w') => Get_any m t name fs A cap w.heap.size w' hn h.fds hfl h.le
  have CP := Lib.hid fun w' (h : St w w.heap.size w.heap.size m t A cap fs w') => print_ok m t fs A cap w.heap.size w' hm ht h.fds h.le h0
  have CT := Lib.hid fun w' (h : St w w.heap.size w.heap.size m t A cap fs w') => headText_any m t fs A cap w.heap.size w' hm ht h.fds h.le h0
  rw [h0] at CK CH
  obtain ⟨T, hT⟩ : ∃ T, T = str (hdText ⟨m, t, fs⟩) := ⟨_, rfl⟩
  rw [← hT] at CP CT
  clear hT
  obtain ⟨G, hG⟩ : ∃ G, G = getL fs name := ⟨_, rfl⟩
  rw [← hG] at CG CR
  have HS : Hid (∀ w', St w w.heap.size w.heap.size m t A cap fs w' → w'.cell? ⟨w.heap.size, 0, none⟩ = some (.string m) ∧ w'.cell? ⟨w.heap.size, 1, none⟩ = some (.string t) ∧ w'.cell? ⟨w.heap.size, 2, none⟩ = some (.slice A fs.length cap)) := fun w' h => ⟨h.blk.cell 0, h.blk.cell 1, h.blk.cell 2⟩
  have HW := Lib.hid hW
  have HS0 := Lib.hid hS0
  clear hW hS0 hf hG
  go_enter Try.func7, Try.ntmps7
  go_wp2_with fail
  rw [← HW.out]
  refine (CH.out _ HS0.out).mono ?_
  rintro e w1 ⟨rfl, hb1⟩
  have HS1 := Lib.hid (HS0.out.step hb1)
  obtain ⟨k0, k1, k2⟩ := HS.out _ HS1.out
  clear hb1 HS0
  go_wp2_with fail
  refine (CT.out _ HS1.out).mono ?_
  rintro e w2 ⟨rfl, hb2⟩
  have HS2 := Lib.hid (HS1.out.step hb2)
  clear k0 k1 k2
  obtain ⟨k0, k1, k2⟩ := HS.out _ HS2.out
  clear hb2 HS1
  go_wp2_with fail
  refine (CP.out _ HS2.out).mono ?_
  rintro e w3 ⟨rfl, hb3⟩
  have HS3 := Lib.hid (HS2.out.step hb3)
  clear k0 k1 k2
  obtain ⟨k0, k1, k2⟩ := HS.out _ HS3.out
  clear hb3 HS2
  go_wp2_with fail
  have hS3 := HS3.out.drew
  clear HS3
  go_region_held3 (fun w' => w'.cell? ⟨w.heap.size, 0, none⟩ = some (.string m) ∧ w'.cell? ⟨w.heap.size, 1, none⟩ = some (.string t) ∧ w'.cell? ⟨w.heap.size, 2, none⟩ = some (.slice A fs.length cap)) (exact HS.out _ (by assumption))
    (first
      | (go_at_call 31; refine (CK.out _ (by assumption)).mono ?_; rintro e w' ⟨rfl, hb'⟩; have hs' := St.step (by assumption) hb')
      | (go_at_call 33; refine (CG.out _ (by assumption)).mono ?_; rintro e w' ⟨v', rfl, ho', hb'⟩; have hs' := St.step (by assumption) hb'; (try have hk' := OS.kept (by assumption) hb'); obtain ⟨A', c', rfl⟩ := ho'.form)
      | (go_at_call 34; refine (CR.out _ (by assumption)).mono ?_; rintro e w' ⟨v', rfl, ho', hb'⟩; have hs' := St.step (by assumption) hb'; (try have hk' := OS.kept (by assumption) hb'); obtain ⟨A', c', rfl⟩ := ho'.form)
      | (go_at_call 32; refine (eqS_any _ _ _ _ _ _ _ _ (by assumption) (by assumption)).mono ?_; rintro e w' ⟨rfl, q', rfl⟩; have hs' := St.drewN (by assumption) q'))
  all_goals go_wp2_with fail
  all_goals go_ret
  all_goals exact ⟨rfl, (by assumption : St w _ _ _ _ _ _ _ _).below⟩
theorem walk (hm : m.size ≤ 1048576) (ht : t.size ≤ 1048576) (hn : name.size ≤ 1048576) (hf : FdR w w.heap.size A cap fs) (hfl : fs.length ≤ 1048576) :
    Calls Try.prog 7 #[.agg #[.string m, .string t, .slice A fs.length cap], .string name] w fun e w' => e = .returned (.bool true) ∧ Below w.heap.size w w' := by
  by_cases h0 : hdE ⟨m, t, fs⟩ = 0
  · exact walk_ok m t name fs A cap w hm ht hn hf hfl h0
  · exact walk_bad m t name fs A cap w hm ht hn hf hfl h0
end
theorem own : ownKnob Try.prog.godebug = none := by kernel_rfl
set_option maxRecDepth 100000 in
theorem contract (H : Type) (enc : TypeId × Value → H) (W : World) (base : Nat) (args : Array Value) (ds gs : List (DataW H)) (before : List MemPlace)
    (hval : ∀ (j : Nat) t v, Try.f7.params[j]? = some t → args[j]? = some v → Value.okWide Try.prog W .any base t v)
    (hW : DataW.Whole enc Try.prog Try.f7.params.toList Rows.headSaysSpec.vars false W args.toList ds gs before) (hk : Rows.uptoSmall H (ds ++ gs) = true) :
    Calls Try.prog 7 args W fun e W' => ∃ v, e = .returned v ∧ Rows.headSaysSpec.post enc Try.prog Try.f7 false true false false W args v W' := by
  have hW' := hW
  obtain ⟨p, q, hA0, hV, rfl, hfz, hnd⟩ := hW
  have hA : DataW.TrodAll enc Try.prog W 0 (fun _ => true) true Try.f7.params.toList args.toList ds p := hA0
  rw [Try.params7] at hA hval
  obtain ⟨v0, vs0, d0, ds0, p0, q0, hargs, rfl, rfl, h0, r0⟩ := trodAll_cons hA
  obtain ⟨v1, vs1, d1, ds1, p1, q1, rfl, rfl, rfl, h1, r1⟩ := trodAll_cons r0
  obtain ⟨rfl, rfl, rfl⟩ := trodAll_nil r1
  obtain rfl : args = #[v0, v1] := by cases args; simp_all
  obtain ⟨rfl, rfl⟩ := trodVars_none hV
  obtain ⟨a1, rfl, rfl, rfl, w1⟩ := open_string Try.underlying9 (hval 1 9 v1 rfl rfl) h1
  clear hA0
  simp only [List.append_nil] at hk
  have hb : Rows.uptoBulkAll (H := H) [d0, .lit (.string a1.data.toList)] ≤ 1048576 := of_decide_eq_true hk
  simp only [Rows.uptoBulkAll, Rows.uptoBulk, lst_len] at hb
  obtain ⟨m, t, A, cap, fs, rfl, hm, ht, hf, hfl⟩ := open_head (hval 0 66 v0 rfl rfl) h0 (by omega)
  refine (walk m t a1 fs A cap W hm ht (by omega) hf hfl).mono fun e W' ⟨he, hg⟩ => ?_
  subst he
  exact ⟨_, rfl, post_true 4 Try.underlying4 (by kernel_rfl) (by kernel_rfl) (by kernel_rfl) rfl rfl hW' hg⟩

set_option maxRecDepth 100000 in
theorem lifted (os : Os) (started : os.Started) (H : Type) (enc : TypeId × Value → H) (F : Stop.Interp) :
    ReturnsInHanded {} Try.checked os 7 .any ((Rows.OpenSpec.upto Rows.headSaysSpec).pre6 enc Try.prog Try.f7 Rows.headSaysUptoRow.domain false) (((Rows.OpenSpec.upto Rows.headSaysSpec).at F).post enc Try.prog Try.f7 false true false false) := by
  refine returnsInHanded_of_cond (C := Try.checked) (s := Rows.OpenSpec.upto Rows.headSaysSpec) (k := Rows.uptoSmall) rfl own started (by kernel_rfl) Try.func7
    (OpenSpec.witness (enc := enc) (C := Try.checked) (s := Rows.OpenSpec.upto Rows.headSaysSpec) (k := Rows.uptoSmall) rfl false ⟨#[], #[.agg #[.string ByteArray.empty, .string ByteArray.empty, .slice none 0 0], .string ByteArray.empty], []⟩ 8 (by kernel_rfl) (by kernel_rfl) (by kernel_rfl)
      (x := ([.agg [.lit (.string []), .lit (.string []), .nil], .lit (.string [])], [], [])) (by kernel_rfl) rfl (by kernel_rfl)) ?_
  intro W base args ds gs before hval hW _ hk _
  exact contract H enc W base args ds gs before hval hW hk

theorem proved : Rows.HeadSaysUptoSaid :=
  OpenClaim.holds_of_cond 7 Try.f7 rfl rfl rfl rfl rfl rfl rfl ⟨rfl, rfl, rfl, rfl, rfl⟩ rfl rfl rfl rfl rfl (by kernel_rfl) Try.func7 (by kernel_rfl)
    (of_decide_eq_true (by kernel_rfl)) (by unfold Func.isWrapper; first | (rw [if_pos (by decide +kernel)]; kernel_rfl) | (rw [if_neg (by decide +kernel)]; exact ⟨rfl, rfl⟩))
    (fun os started H enc _ F => lifted os started H enc F)
#print axioms proved
end Go.Proofs.Ytckinkapbfaceaa.lawHead
