/- wicklaw.VarsSays: for all variables, requests, clients, scores and lists of bulk at most 1048576 vars.Values and vars.All return what the reference returns; the card. Condition: that bulk. -/
import Derived.Test.YthfolopnjmkllaaDoorCards
import Derived.Test.YthfolopnjmkllaaDoorTie
import Derived.Test.YthfolopnjmkllaaDoorFrame
import Derived.Test.YthfolopnjmkllaaDoorPost
import Derived.Test.YthfolopnjmkllaaDoorAllC
import Derived.Test.YthfolopnjmkllaaDoorVarV
import Derived.Deep.DeepHandedRow
import Derived.Lib.LaidTab
import Derived.Lib.SmallJoins
import Derived.MakeChecks
import Derived.WideShapes
namespace Go.Proofs.YthfolopnjmkllaaDoor.lawVar
open Go.ChangeShapes Go.WideShapes Go.ChangeAt Go.RowKit Go.Joins
open Go.ChangeMaps (open_string shut_string)
set_option linter.unusedVariables false
set_option linter.unusedSimpArgs false

/-- the table of powers, out of what is laid -/
theorem tow_of_laid {W : World} (h : laidMetH Tryd.prog Rows.varsSaysUptoRow.laid W) : TwN W := by
  rw [MakeChecks.laidMetH_plain _ _ _ (by kernel_rfl)] at h
  obtain ⟨ps, hv, _, _⟩ := h
  obtain ⟨_, _, _, _, _, _, _, _, _, _, hv2, _⟩ := hv
  obtain ⟨_, _, _, _, _, _, _, _, _, _, hv3, _⟩ := hv2
  obtain ⟨g, t, cs, fuel, p, q, hg, ht, hvar, hd, _, _⟩ := hv3
  obtain rfl : 116 = t := Option.some.inj ((show (Tryd.prog.globals[1]?).map (·.type) = some 116 by kernel_rfl).symm.trans (by rw [show g = 1 from (Option.some.inj ((show Tryd.prog.globalNamed "internal/strconv.uint64pow10" = some 1 by kernel_rfl).symm.trans hg)).symm] at ht; exact ht))
  show _ = _
  rw [hvar, ← Lib.cells_of_tab Tryd.underlying116 Tryd.underlying82 (by kernel_rfl) (by kernel_rfl) (zs := Lib.pow10Tab) hd]
theorem u32_range {n : Int} (h : (Lit.int .u32 n).wf = true) : ∃ k : Nat, n = (k : Int) ∧ k < 4294967296 := by
  have h2 : 0 ≤ n ∧ n ≤ 4294967295 := by simpa [Lit.wf, IntKind.min, IntKind.max, IntKind.signed, IntKind.bits] using h
  exact ⟨n.toNat, by omega, by omega⟩
theorem i64_range {n : Int} (h : (Lit.int .i64 n).wf = true) : -9223372036854775808 ≤ n ∧ n ≤ 9223372036854775807 := by
  simpa [Lit.wf, IntKind.min, IntKind.max, IntKind.signed, IntKind.bits] using h
set_option maxRecDepth 100000 in
theorem open_varsV {H : Type} {enc : TypeId × Value → H} {W : World} {v : Value} {d : DataW H} {p : List MemPlace} {base : Nat}
    (hv : Value.okWide Tryd.prog W .any base 22 v) (h : DataW.Trod enc Tryd.prog W 0 (fun _ => true) true 22 v d p) (hb : Rows.uptoBulk d ≤ 1048576) :
    ∃ (A : Option Addr) (cap : Nat) (fs : List Vr), v = .slice A fs.length cap ∧ VrR W W.heap.size A cap fs ∧ fs.length ≤ 1048576 := by
  obtain ⟨a0, len, cap, rfl⟩ := okWide_slice Tryd.underlying22 hv
  obtain ⟨fuel, hf⟩ := h
  have hf2 : DataW.trod enc Tryd.prog W 0 (fun _ => true) true fuel 22 [.slice a0 len cap] = some (d, p) := by simpa [Value.cells] using hf
  exact open_vars hf2 hb
set_option maxRecDepth 100000 in
theorem open_argsV {H : Type} {enc : TypeId × Value → H} {W : World} {v : Value} {d : DataW H} {p : List MemPlace} {base : Nat}
    (hv : Value.okWide Tryd.prog W .any base 29 v) (h : DataW.Trod enc Tryd.prog W 0 (fun _ => true) true 29 v d p) (hb : Rows.uptoBulk d ≤ 1048576) :
    ∃ (A : Option Addr) (cap : Nat) (fs : List Fd), v = .slice A fs.length cap ∧ FdR W W.heap.size A cap fs ∧ fs.length ≤ 1048576 := by
  obtain ⟨a0, len, cap, rfl⟩ := okWide_slice Tryd.underlying29 hv
  obtain ⟨fuel, hf⟩ := h
  have hf2 : DataW.trod enc Tryd.prog W 0 (fun _ => true) true fuel 29 [.slice a0 len cap] = some (d, p) := by simpa [Value.cells] using hf
  obtain ⟨_, _, hp⟩ := pairArg
  exact open_pairs hp hf2 hb
/-- the boxes at hand in a round -/
structure Rz (w : World) (mm t : ByteArray) (A : Option Addr) (cap n : Nat) (body : ByteArray) (g : Nat) (vk vm : Int) (vn : ByteArray) (wr : World) : Prop where
  rb : Rb w mm t A cap n body wr
  vb : Blk wr g 31 #[.int .i64 vk, .int .i64 vm, .string vn]
theorem Rz.step {w wr wr' : World} {mm t : ByteArray} {A : Option Addr} {cap n : Nat} {body : ByteArray} {g : Nat} {vk vm : Int} {vn : ByteArray} (h : Rz w mm t A cap n body g vk vm vn wr) (hb : Below wr.heap.size wr wr') : Rz w mm t A cap n body g vk vm vn wr' := ⟨h.rb.step hb, h.vb.below hb h.vb.lt⟩

set_option maxRecDepth 100000 in
set_option maxHeartbeats 8000000 in
theorem walk (L : List Vr) (mm t : ByteArray) (A : Option Addr) (cap : Nat) (fs : List Fd) (body : ByteArray) (client : Nat) (score : Int) (Al Ac Av : Option Addr) (capl capc capv : Nat) (l ck : List Fd) (w : World)
    (hv : VrR w w.heap.size Av capv L) (hvl : L.length ≤ 1048576)
    (hmz : mm.size ≤ 1048576) (htz : t.size ≤ 1048576) (hbz : body.size ≤ 1048576) (hf : FdR w w.heap.size A cap fs) (hfl : fs.length ≤ 1048576) (hl : FdR w w.heap.size Al capl l) (hll : l.length ≤ 1048576) (hc : FdR w w.heap.size Ac capc ck) (hcl : ck.length ≤ 1048576)
    (hcz : client < 4294967296) (hs0 : -9223372036854775808 ≤ score) (hs1 : score ≤ 9223372036854775807) (hm : ∃ m, w.cell? ⟨0, 0, none⟩ = some (.int .i64 m)) (hT : TwN w) :
    Calls Tryd.prog 3 #[.slice Av L.length capv, .agg #[.string mm, .string t, .slice A fs.length cap, .string body], .int .u32 client, .int .i64 score, .slice Al l.length capl, .slice Ac ck.length capc] w fun e w' => e = .returned (.bool true) ∧ Below w.heap.size w w' := by
  obtain ⟨m, hm⟩ := hm
  obtain ⟨W, hW⟩ : ∃ W, w.alloc (.cells #[.string mm, .string t, .slice A fs.length cap, .string body] 27) = W := ⟨_, rfl⟩
  have hR : Rb w mm t A cap fs.length body W := by rw [← hW]; exact ⟨Blk.new _ _ _, (Below.refl _ _).alloc (Nat.le_refl _) _⟩
  have HM := Lib.hid fun w' (hb : Below w.heap.size w w') => (hb.cell (p := ⟨0, 0, none⟩) (World.block_lt_of_cell? _ _ hm)).trans hm
  have CV := Lib.hid fun (v : Vr) w' (hn : v.n.size ≤ 1048576) (hb : Below w.heap.size w w') => values_any v.k v.m v.n mm t A cap fs body client score Al Ac capl capc l ck m w' hmz htz hbz hn (⟨(hf.below hb).1.more hb.size, hf.2⟩) (by omega) (⟨(hl.below hb).1.more hb.size, hl.2⟩) (by omega) (⟨(hc.below hb).1.more hb.size, hc.2⟩) (by omega) hcz hs0 hs1 (HM.out w' hb) (hT.below hb)
  have CR := Lib.hid fun (v : Vr) w' (hn : v.n.size ≤ 1048576) (hb : Below w.heap.size w w') => rvalues_any v.k v.m v.n mm t A cap fs body client score Al Ac capl capc l ck w' hmz htz hbz hn (⟨(hf.below hb).1.more hb.size, hf.2⟩) (by omega) (⟨(hl.below hb).1.more hb.size, hl.2⟩) (by omega) (⟨(hc.below hb).1.more hb.size, hc.2⟩) (by omega) hcz hs0 hs1 (hT.below hb)
  have CA := Lib.hid fun w' (hb : Below w.heap.size w w') => all_any L mm t A cap fs body client score Al Ac Av capl capc capv l ck m w' (⟨(hv.below hb).1.more hb.size, hv.2⟩) hvl hmz htz hbz (⟨(hf.below hb).1.more hb.size, hf.2⟩) (by omega) (⟨(hl.below hb).1.more hb.size, hl.2⟩) (by omega) (⟨(hc.below hb).1.more hb.size, hc.2⟩) (by omega) hcz hs0 hs1 (HM.out w' hb) (hT.below hb)
  have CB := Lib.hid fun w' (hb : Below w.heap.size w w') => rall_any L mm t A cap fs body client score Al Ac Av capl capc capv l ck w' (⟨(hv.below hb).1.more hb.size, hv.2⟩) hvl hmz htz hbz (⟨(hf.below hb).1.more hb.size, hf.2⟩) (by omega) (⟨(hl.below hb).1.more hb.size, hl.2⟩) (by omega) (⟨(hc.below hb).1.more hb.size, hc.2⟩) (by omega) hcz hs0 hs1 (hT.below hb)
  have CE := Lib.hid fun A1 A2 c1 c2 (G : List Fd) w' B1 B2 (hG : G.length ≤ 4000000000000) h1 h2 => eqAr_any A1 A2 c1 c2 G w' B1 B2 hG h1 h2
  have HVR := Lib.hid fun w' (hb : Below w.heap.size w w') => hv.below hb
  obtain ⟨VV, hVV⟩ : ∃ VV, VV = fun v : Vr => vkL v.k v.n mm t fs body client score l ck := ⟨_, rfl⟩
  rw [← hVV] at CA CB
  have HVL : Hid (∀ v, (VV v).length ≤ 1048577) := Lib.hid fun v => by rw [hVV]; exact vkL_le (by omega) (by omega) (by omega) (by omega)
  have HVV := Lib.hid hVV
  have hLL : (lookL VV L L).length ≤ 4000000000000 := Nat.le_trans (lookL_le (by omega) HVL.out L L) (Nat.le_trans (Nat.mul_le_mul_right _ hvl) (by omega))
  obtain ⟨Q, hQ⟩ : ∃ Q, Q = lookL VV L L := ⟨_, rfl⟩
  rw [← hQ] at CA CB hLL
  have HR := Lib.hid hR
  obtain ⟨x0, x1, x2, x3⟩ := hR.facts
  obtain ⟨hcv1, hcv2⟩ : L.length ≤ capv ∧ capv ≤ 9223372036854775807 := ⟨hv.2.1, hv.2.2.1⟩
  clear hR hm hT hf hl hc hVV hv hQ
  go_enter Tryd.func3, Tryd.ntmps3
  go_wp2_with fail
  go_loopw [17] (fun i wr => ∃ k : Nat, k ≤ L.length ∧ i = .int .i64 k ∧ Rb w mm t A cap fs.length body wr) (fun i _ => L.length - (intOf i).toNat)
  case atStart => exact ⟨0, by omega, rfl, HR.out⟩
  case round =>
    obtain ⟨k, hk, rfl, hrr⟩ := hrel
    have HRr := Lib.hid hrr
    obtain ⟨r0, r1, r2, r3⟩ := hrr.facts
    by_cases hlt : k < L.length
    · obtain ⟨ad, hAv, hab, z0, z1, z2, hn⟩ := (HVR.out wr hrr.be).cells hlt
      obtain ⟨v, hve⟩ : ∃ v, v = L[k] := ⟨_, rfl⟩
      rw [← hve] at z0 z1 z2 hn
      have CV1 := fun w' => CV.out v w' hn
      have CR1 := fun w' => CR.out v w' hn
      rw [show vkL v.k v.n mm t fs body client score l ck = VV v by rw [HVV.out]] at CV1 CR1
      have hVl := HVL.out v
      obtain ⟨vk, vm, vn⟩ := v
      dsimp only at z0 z1 z2 hn CV1 CR1
      obtain ⟨G, hG⟩ : ∃ G, G = VV ⟨vk, vm, vn⟩ := ⟨_, rfl⟩
      rw [← hG] at CV1 CR1 hVl
      have hal := (Below.refl wr.heap.size wr).alloc (Nat.le_refl _) (.cells #[.int .i64 vk, .int .i64 vm, .string vn] 31)
      have hr2 := hrr.step hal
      have hk2 := Blk.new wr 31 #[.int .i64 vk, .int .i64 vm, .string vn]
      clear hG hve hal hrr r0 r1 r2 r3
      subst hAv
      go_upto_region 4 with fail
      obtain ⟨V, hV⟩ : ∃ V, wr.alloc (.cells #[.int .i64 vk, .int .i64 vm, .string vn] 31) = V := ⟨_, rfl⟩
      rw [hV] at hr2 hk2 ⊢
      obtain ⟨g, hg⟩ : ∃ g, wr.heap.size = g := ⟨_, rfl⟩
      rw [hg] at hk2 ⊢
      have hz : Rz w mm t A cap fs.length body g vk vm vn V := ⟨hr2, hk2⟩
      have hzd := hz.step (below_drewN (Below.refl _ _) 1 : Below V.heap.size V V.drew)
      have HS : Hid (∀ w', Rz w mm t A cap fs.length body g vk vm vn w' → w'.cell? ⟨g, 0, none⟩ = some (.int .i64 vk) ∧ w'.cell? ⟨g, 1, none⟩ = some (.int .i64 vm) ∧ w'.cell? ⟨g, 2, none⟩ = some (.string vn) ∧ w'.cell? ⟨w.heap.size, 0, none⟩ = some (.string mm) ∧ w'.cell? ⟨w.heap.size, 1, none⟩ = some (.string t) ∧ w'.cell? ⟨w.heap.size, 2, none⟩ = some (.slice A fs.length cap) ∧ w'.cell? ⟨w.heap.size, 3, none⟩ = some (.string body)) := Lib.hid fun w' h => ⟨h.vb.cell 0, h.vb.cell 1, h.vb.cell 2, h.rb.facts⟩
      have CV1 := Lib.hid CV1
      have CR1 := Lib.hid CR1
      clear hV hg hr2 hk2 hz z0 z1 z2
      go_wp2_with fail
      go_region_held3 (fun w' => w'.cell? ⟨g, 0, none⟩ = some (.int .i64 vk) ∧ w'.cell? ⟨g, 1, none⟩ = some (.int .i64 vm) ∧ w'.cell? ⟨g, 2, none⟩ = some (.string vn) ∧ w'.cell? ⟨w.heap.size, 0, none⟩ = some (.string mm) ∧ w'.cell? ⟨w.heap.size, 1, none⟩ = some (.string t) ∧ w'.cell? ⟨w.heap.size, 2, none⟩ = some (.slice A fs.length cap) ∧ w'.cell? ⟨w.heap.size, 3, none⟩ = some (.string body)) (exact HS.out _ (by assumption))
        (first
          | (go_at_call 6; (refine (CV1.out _ hzd.rb.be).mono ?_); rintro e w2 ⟨u2, rfl, hu2, hb2⟩; have hz2 := hzd.step hb2; obtain ⟨A2, c2, rfl⟩ := hu2.form)
          | (go_at_call 7; (refine (CR1.out _ hz2.rb.be).mono ?_); rintro e w3 ⟨u3, rfl, hu3, hb3⟩; have hz3 := hz2.step hb3; obtain ⟨A3, c3, rfl⟩ := hu3.form)
          | (go_at_call 5; (refine (CE.out _ _ _ _ G _ _ _ (by omega) (hu2.kept hb3) hu3).mono ?_); rintro e w4 ⟨rfl, hb4⟩; have hz4 := hz3.step hb4)
          | fail)
      have HR4 := Lib.hid hz4.rb
      clear hu2 hb2 hz2 hu3 hb3 hz3 hb4 hz4 hzd
      go_wp2_with fail
      go_roundw
      case rel => exact ⟨k + 1, by omega, by go_num, HR4.out⟩
      case measure => simp [intOf]; omega
    · obtain rfl : k = L.length := by omega
      have hrd := hrr.step (below_drewN (Below.refl _ _) 1 : Below wr.heap.size wr wr.drew)
      have HS : Hid (∀ w', Rb w mm t A cap fs.length body w' → w'.cell? ⟨w.heap.size, 0, none⟩ = some (.string mm) ∧ w'.cell? ⟨w.heap.size, 1, none⟩ = some (.string t) ∧ w'.cell? ⟨w.heap.size, 2, none⟩ = some (.slice A fs.length cap) ∧ w'.cell? ⟨w.heap.size, 3, none⟩ = some (.string body)) := Lib.hid fun w' h => h.facts
      clear hrr r0 r1 r2 r3
      go_wp2_with fail
      go_region_held3 (fun w' => w'.cell? ⟨w.heap.size, 0, none⟩ = some (.string mm) ∧ w'.cell? ⟨w.heap.size, 1, none⟩ = some (.string t) ∧ w'.cell? ⟨w.heap.size, 2, none⟩ = some (.slice A fs.length cap) ∧ w'.cell? ⟨w.heap.size, 3, none⟩ = some (.string body)) (exact HS.out _ (by assumption))
        (first
          | (go_at_call 8; (refine (CA.out _ hrd.be).mono ?_); rintro e w2 ⟨u2, rfl, hu2, hb2⟩; have hz2 := hrd.step hb2; obtain ⟨A2, c2, rfl⟩ := hu2.form)
          | (go_at_call 9; (refine (CB.out _ hz2.be).mono ?_); rintro e w3 ⟨u3, rfl, hu3, hb3⟩; have hz3 := hz2.step hb3; obtain ⟨A3, c3, rfl⟩ := hu3.form)
          | (go_at_call 5; (refine (CE.out _ _ _ _ Q _ _ _ hLL (hu2.kept hb3) hu3).mono ?_); rintro e w4 ⟨rfl, hb4⟩; have hz4 := hz3.step hb4)
          | fail)
      have HB4 := Lib.hid hz4.be
      clear hu2 hb2 hz2 hu3 hb3 hz3 hb4 hz4 hrd
      go_wp2_with fail
      go_ret
      exact ⟨rfl, HB4.out⟩

theorem own : ownKnob Tryd.prog.godebug = none := by kernel_rfl
set_option maxRecDepth 100000 in
theorem contract (H : Type) (enc : TypeId × Value → H) (W : World) (base : Nat) (args : Array Value) (ds gs : List (DataW H)) (before : List MemPlace)
    (hval : ∀ (j : Nat) t v, Tryd.f3.params[j]? = some t → args[j]? = some v → Value.okWide Tryd.prog W .any base t v)
    (hW : DataW.Whole enc Tryd.prog Tryd.f3.params.toList Rows.varsSaysSpec.vars false W args.toList ds gs before) (hk : Rows.uptoSmall H (ds ++ gs) = true) (hm : ∃ m, W.cell? ⟨0, 0, none⟩ = some (.int .i64 m)) (hT : TwN W) :
    Calls Tryd.prog 3 args W fun e W' => ∃ v, e = .returned v ∧ Rows.varsSaysSpec.post enc Tryd.prog Tryd.f3 false true false false W args v W' := by
  have hW' := hW
  obtain ⟨p, q, hA0, hV, rfl, hfz, hnd⟩ := hW
  have hA : DataW.TrodAll enc Tryd.prog W 0 (fun _ => true) true Tryd.f3.params.toList args.toList ds p := hA0
  rw [Tryd.params3] at hA hval
  obtain ⟨v0, vs0, d0, ds0, p0, q0, hargs, rfl, rfl, h0, r0⟩ := trodAll_cons hA
  obtain ⟨v1, vs1, d1, ds1, p1, q1, rfl, rfl, rfl, h1, r1⟩ := trodAll_cons r0
  obtain ⟨v2, vs2, d2, ds2, p2, q2, rfl, rfl, rfl, h2, r2⟩ := trodAll_cons r1
  obtain ⟨v3, vs3, d3, ds3, p3, q3, rfl, rfl, rfl, h3, r3⟩ := trodAll_cons r2
  obtain ⟨v4, vs4, d4, ds4, p4, q4, rfl, rfl, rfl, h4, r4⟩ := trodAll_cons r3
  obtain ⟨v5, vs5, d5, ds5, p5, q5, rfl, rfl, rfl, h5, r5⟩ := trodAll_cons r4
  obtain ⟨rfl, rfl, rfl⟩ := trodAll_nil r5
  obtain rfl : args = #[v0, v1, v2, v3, v4, v5] := by cases args; simp_all
  obtain ⟨rfl, rfl⟩ := trodVars_none hV
  clear hA0
  simp only [List.append_nil] at hk
  have hb : Rows.uptoBulkAll (H := H) [d0, d1, d2, d3, d4, d5] ≤ 1048576 := of_decide_eq_true hk
  simp only [Rows.uptoBulkAll] at hb
  obtain ⟨Av, capv, L, rfl, hR0, hl0⟩ := open_varsV (hval 0 22 v0 rfl rfl) h0 (by omega)
  obtain ⟨mm, t, A, cap, fs, body, rfl, hmz, htz, hbz, hf, hfl, _⟩ := open_request (hval 1 27 v1 rfl rfl) h1 (by omega)
  obtain ⟨ad0, rfl, rfl, rfl, w2⟩ := open_int Tryd.underlying28 (hval 2 28 v2 rfl rfl) h2
  obtain ⟨client, rfl, hcz⟩ := u32_range w2
  obtain ⟨score, rfl, rfl, rfl, w3⟩ := open_int Tryd.underlying3 (hval 3 3 v3 rfl rfl) h3
  obtain ⟨hs0, hs1⟩ := i64_range w3
  obtain ⟨Al, capl, l, rfl, hl, hll⟩ := open_argsV (hval 4 29 v4 rfl rfl) h4 (by omega)
  obtain ⟨Ac, capc, ck, rfl, hc, hcl⟩ := open_argsV (hval 5 29 v5 rfl rfl) h5 (by omega)
  refine (walk L mm t A cap fs body client score Al Ac Av capl capc capv l ck W hR0 hl0 hmz htz hbz hf hfl hl hll hc hcl hcz hs0 hs1 hm hT).mono fun e W' ⟨he, hg⟩ => ?_
  subst he
  exact ⟨_, rfl, post_true 4 Tryd.underlying4 (by kernel_rfl) (by kernel_rfl) (by kernel_rfl) rfl rfl hW' hg⟩

/-- a table laid -/
def layObj (cs : Array Value) : Obj → Obj
  | .cells _ t frozen => .cells cs t frozen
  | o => o
def layIn (w : World) (b : Nat) (cs : Array Value) : World := { w with heap := w.heap.modify b (layObj cs) }
/-- a world for the witness: the tables as they are laid -/
noncomputable def laidWorld (os : Os) : World :=
  layIn (layIn (layIn (World.holding Tryd.prog os ⟨#[], #[], []⟩) 1 ([1, 10, 100, 1000, 10000, 100000, 1000000, 10000000, 100000000, 1000000000, 10000000000, 100000000000, 1000000000000, 10000000000000, 100000000000000, 1000000000000000, 10000000000000000, 100000000000000000, 1000000000000000000, 10000000000000000000].map fun n : Nat => Value.int .u64 (n : Int)).toArray) 3 ([0, 1, 56, 2, 57, 49, 28, 3, 61, 58, 42, 50, 38, 29, 17, 4, 62, 47, 59, 36, 45, 43, 51, 22, 53, 39, 33, 30, 24, 18, 12, 5, 63, 55, 48, 27, 60, 41, 37, 16, 46, 35, 44, 21, 52, 32, 23, 11, 54, 26, 40, 15, 34, 20, 31, 10, 25, 14, 19, 9, 13, 8, 7, 6].map fun n : Nat => Value.int .u8 (n : Int)).toArray) 2 ([0, 1, 28, 2, 29, 14, 24, 3, 30, 22, 20, 15, 25, 17, 4, 8, 31, 27, 13, 23, 21, 19, 16, 7, 26, 12, 18, 6, 11, 5, 10, 9].map fun n : Nat => Value.int .u8 (n : Int)).toArray
theorem laid_met (os : Os) : laidMet Tryd.prog Rows.varsSaysUptoRow.laid ((laidWorld os).forCall (fun _ _ => 0) ⟨#[], #[.slice none 0 0, .agg #[.string ByteArray.empty, .string ByteArray.empty, .slice none 0 0, .string ByteArray.empty], .int .u32 0, .int .i64 0, .slice none 0 0, .slice none 0 0], []⟩).memory :=
  laidMet_of_run' 8 (by kernel_rfl) (by kernel_rfl)
theorem reads (os : Os) {H : Type} (enc : TypeId × Value → H) : ∃ places, DataW.whole enc Tryd.prog ((laidWorld os).forCall (fun _ _ => 0) ⟨#[], #[.slice none 0 0, .agg #[.string ByteArray.empty, .string ByteArray.empty, .slice none 0 0, .string ByteArray.empty], .int .u32 0, .int .i64 0, .slice none 0 0, .slice none 0 0], []⟩).memory Tryd.f3.params.toList Rows.varsSaysSpec.vars false #[Value.slice none 0 0, .agg #[.string ByteArray.empty, .string ByteArray.empty, .slice none 0 0, .string ByteArray.empty], .int .u32 0, .int .i64 0, .slice none 0 0, .slice none 0 0].toList 8 = some ([.nil, .agg [.agg [.lit (.string []), .lit (.string []), .nil], .lit (.string [])], .lit (.int .u32 0), .lit (.int .i64 0), .nil, .nil], [], places) :=
  ⟨[], by kernel_rfl⟩

set_option maxRecDepth 100000 in
theorem lifted (os : Os) (started : os.Started) (H : Type) (enc : TypeId × Value → H) (F : Stop.Interp) :
    ReturnsInHanded {} Tryd.checked os 3 .any ((Rows.OpenSpec.upto Rows.varsSaysSpec).preRow enc Tryd.prog Tryd.f3 Rows.varsSaysUptoRow.domain false Rows.varsSaysUptoRow.laid) (((Rows.OpenSpec.upto Rows.varsSaysSpec).at F).post enc Tryd.prog Tryd.f3 false true false false) := by
  obtain ⟨places, hx⟩ := reads os enc
  refine returnsInHanded_of_row (C := Tryd.checked) (s := Rows.OpenSpec.upto Rows.varsSaysSpec) own started (by kernel_rfl) Tryd.func3
    (witness_row_at (enc := enc) (C := Tryd.checked) false (laidWorld os) #[.slice none 0 0, .agg #[.string ByteArray.empty, .string ByteArray.empty, .slice none 0 0, .string ByteArray.empty], .int .u32 0, .int .i64 0, .slice none 0 0, .slice none 0 0] rfl (by kernel_rfl) (by kernel_rfl) (by kernel_rfl)
      (OpenSpec.preRow_of_cond 8 hx (by kernel_rfl) (fun k hk => by cases hk; kernel_rfl) (by kernel_rfl) (laid_met os))) ?_
  intro W base args ds gs before hval hW _ hcond _ hlaid hsh _
  exact contract H enc W base args ds gs before hval hW (hcond _ rfl) (cell_of_shapedOpen_int (zero := #[.int .i64 0]) (t := 3) hsh (of_decide_eq_true (by kernel_rfl)) (by kernel_rfl) rfl (by kernel_rfl) (by kernel_rfl) Tryd.underlying3) (tow_of_laid hlaid)

theorem saidUpto : Rows.VarsSaysUptoSaid :=
  OpenClaim.holds_of_cond 3 Tryd.f3 rfl rfl rfl rfl rfl rfl rfl ⟨rfl, rfl, rfl, rfl, rfl⟩ rfl rfl rfl rfl rfl (by kernel_rfl) Tryd.func3 (by kernel_rfl)
    (of_decide_eq_true (by kernel_rfl)) (by unfold Func.isWrapper; first | (rw [if_pos (by decide +kernel)]; kernel_rfl) | (rw [if_neg (by decide +kernel)]; exact ⟨rfl, rfl⟩))
    (fun os started H enc _ F => by rw [OpenClaim.pre_eq_preRow]; exact lifted os started H enc F)

/-- No parameter wants a stand-in; the program's own looks are off: what the card asks. -/
theorem plain (f : FuncId) (fn : Func) (hf : Tryd.pinned.checked.prog.funcNamed "gatewicket/wicklaw.VarsSays" = some f) (hfn : Tryd.pinned.checked.prog.funcs[f]? = some fn) :
    false = Tryd.pinned.checked.prog.looks [] ∧ ∀ (j : Nat) t, fn.params[j]? = some t → Tryd.pinned.checked.prog.wantsStandIn t = false := by
  obtain rfl : f = 3 := Option.some.inj ((show Tryd.prog.funcNamed "gatewicket/wicklaw.VarsSays" = some 3 by kernel_rfl).symm.trans hf) |>.symm
  obtain rfl : fn = Tryd.f3 := (Option.some.inj (Tryd.func3.symm.trans hfn)).symm
  refine ⟨by kernel_rfl, fun j t ht => ?_⟩
  rw [Tryd.params3] at ht
  have ht2 : t = 22 ∨ t = 27 ∨ t = 28 ∨ t = 3 ∨ t = 29 := by
    have := Array.mem_of_getElem? ht
    simp at this; (first | exact this | (rcases this with h | h | h | h | h | h <;> simp [h]))
  rcases ht2 with rfl | rfl | rfl | rfl | rfl
  · exact (show Tryd.prog.wantsStandIn 22 = false by kernel_rfl)
  · exact (show Tryd.prog.wantsStandIn 27 = false by kernel_rfl)
  · exact (show Tryd.prog.wantsStandIn 28 = false by kernel_rfl)
  · exact (show Tryd.prog.wantsStandIn 3 = false by kernel_rfl)
  · exact (show Tryd.prog.wantsStandIn 29 = false by kernel_rfl)

theorem card : Rows.VarsSaysUptoCardSaid :=
  Claim7.holds_tied_plain_at .later [] _ _ _ _ saidUpto (fun _ h => by cases h) (by kernel_rfl) (fun _ h => by cases h) varsSaysUpto_row_tie rfl ⟨rfl, rfl⟩ (by kernel_rfl) rfl plain (by kernel_rfl)
#print axioms card
end Go.Proofs.YthfolopnjmkllaaDoor.lawVar
