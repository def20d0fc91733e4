/- Walk: vars.All. -/
import Derived.Test.YthfolopnjmkllaaDoorAllA
namespace Go.Proofs.YthfolopnjmkllaaDoor
open Go.RowKit
set_option linter.unusedVariables false
set_option linter.unusedSimpArgs false

/-- what stays beside while vars.All goes on: the request's box -/
structure Rb (w : World) (mm t : ByteArray) (A : Option Addr) (cap n : Nat) (body : ByteArray) (wr : World) : Prop where
  qb : Blk wr w.heap.size 27 #[.string mm, .string t, .slice A n cap, .string body]
  be : Below w.heap.size w wr
theorem Rb.step {w wr wr' : World} {mm t : ByteArray} {A : Option Addr} {cap n : Nat} {body : ByteArray} (h : Rb w mm t A cap n body wr) (hb : Below wr.heap.size wr wr') : Rb w mm t A cap n body wr' := ⟨h.qb.below hb h.qb.lt, h.be.trans (hb.mono h.be.size)⟩
theorem Rb.step2 {w wr wr' : World} {mm t : ByteArray} {A : Option Addr} {cap n : Nat} {body : ByteArray} (h : Rb w mm t A cap n body wr) (hb : Below (w.heap.size + 1) wr wr') : Rb w mm t A cap n body wr' := ⟨h.qb.below hb (Nat.lt_succ_self _), h.be.trans (hb.mono (Nat.le_succ _))⟩
theorem Rb.facts {w wr : World} {mm t : ByteArray} {A : Option Addr} {cap n : Nat} {body : ByteArray} (h : Rb w mm t A cap n body wr) : wr.cell? ⟨w.heap.size, 0, none⟩ = some (.string mm) ∧ wr.cell? ⟨w.heap.size, 1, none⟩ = some (.string t) ∧ wr.cell? ⟨w.heap.size, 2, none⟩ = some (.slice A n cap) ∧ wr.cell? ⟨w.heap.size, 3, none⟩ = some (.string body) := ⟨h.qb.cell 0, h.qb.cell 1, h.qb.cell 2, h.qb.cell 3⟩
set_option maxRecDepth 100000 in
set_option maxHeartbeats 8000000 in
theorem all_any (L : List Vr) (mm t : ByteArray) (A : Option Addr) (cap : Nat) (fs : List Fd) (body : ByteArray) (client : Nat) (score : Int) (Al Ac Av : Option Addr) (capl capc capv : Nat) (l ck : List Fd) (m : Int) (w : World)
    (hv : VrR w w.heap.size Av capv L) (hvl : L.length ≤ 1048576)
    (hmz : mm.size ≤ 1048576) (htz : t.size ≤ 1048576) (hbz : body.size ≤ 1048576) (hf : FdR w w.heap.size A cap fs) (hfl : fs.length ≤ 1048577) (hl : FdR w w.heap.size Al capl l) (hll : l.length ≤ 1048577) (hc : FdR w w.heap.size Ac capc ck) (hcl : ck.length ≤ 1048577)
    (hcz : client < 4294967296) (hs0 : -9223372036854775808 ≤ score) (hs1 : score ≤ 9223372036854775807) (hm : w.cell? ⟨0, 0, none⟩ = some (.int .i64 m)) (hT : TwN w) :
    Calls Tryd.prog 8 #[.slice Av L.length capv, .agg #[.string mm, .string t, .slice A fs.length cap, .string body], .int .u32 client, .int .i64 score, .slice Al l.length capl, .slice Ac ck.length capc] w (ValRes (lookL (fun v => vkL v.k v.n mm t fs body client score l ck) L L) w) := by
  obtain ⟨W, hW⟩ : ∃ W, w.alloc (.cells #[.string mm, .string t, .slice A fs.length cap, .string body] 27) = W := ⟨_, rfl⟩
  have hR : Rb w mm t A cap fs.length body W := by rw [← hW]; exact ⟨Blk.new _ _ _, (Below.refl _ _).alloc (Nat.le_refl _) _⟩
  have HM := Lib.hid fun w' (hb : Below w.heap.size w w') => (hb.cell (p := ⟨0, 0, none⟩) (World.block_lt_of_cell? _ _ hm)).trans hm
  have CV := Lib.hid fun (v : Vr) w' (hn : v.n.size ≤ 1048576) (hb : Below w.heap.size w w') => values_any v.k v.m v.n mm t A cap fs body client score Al Ac capl capc l ck m w' hmz htz hbz hn (⟨(hf.below hb).1.more hb.size, hf.2⟩) hfl (⟨(hl.below hb).1.more hb.size, hl.2⟩) hll (⟨(hc.below hb).1.more hb.size, hc.2⟩) hcl hcz hs0 hs1 (HM.out w' hb) (hT.below hb)
  have CI := Lib.hid fun (n : Nat) w' (hn : n ≤ 1048577) (hb : Below w.heap.size w w') => itoaZ_any (n : Int) w' (by omega) (by omega) (hT.below hb)
  have CO := Lib.hid fun s w' => one_any s w'
  have HVR := Lib.hid fun w' (hb : Below w.heap.size w w') => hv.below hb
  have CC := Lib.hid fun kd an g1 g2 w' (hb : Below w.heap.size w w') h1 h2 => conV_any kd an g1 g2 L Av capv w.heap.size w' (hv.below hb) hb.size h1 h2
  obtain ⟨VV, hVV⟩ : ∃ VV, VV = fun v : Vr => vkL v.k v.n mm t fs body client score l ck := ⟨_, rfl⟩
  rw [← hVV]
  have HVL : Hid (∀ v, (VV v).length ≤ 1048577) := Lib.hid fun v => by rw [hVV]; exact vkL_le (by omega) hfl hll hcl
  have HVV := Lib.hid hVV
  have HLL : Hid (∀ k, (lookL VV L (L.take k)).length ≤ 1048576 * 1048577) := Lib.hid fun k => Nat.le_trans (lookL_le (by omega) HVL.out L (L.take k)) (Nat.mul_le_mul_right _ (by rw [List.length_take]; omega))
  have HR := Lib.hid hR
  obtain ⟨x0, x1, x2, x3⟩ := hR.facts
  obtain ⟨hcv1, hcv2⟩ : L.length ≤ capv ∧ capv ≤ 9223372036854775807 := ⟨hv.2.1, hv.2.2.1⟩
  clear hR hm hT hf hl hc hVV hv
  go_enter Tryd.func8, Tryd.ntmps8
  go_wp2_with fail
  go_loopw [13, 21] (fun v i wr => ∃ k : Nat, k ≤ L.length ∧ i = .int .i64 k ∧ OP 34 wr (w.heap.size + 1) v (lookL VV L (L.take k)) ∧ Hid (Rb w mm t A cap fs.length body wr)) (fun _ i _ => L.length - (intOf i).toNat)
  case atStart => exact ⟨0, by omega, rfl, OP.nil _ _ _, HR⟩
  case round =>
    obtain ⟨k, hk, rfl, ho, HRr⟩ := hrel
    obtain ⟨A5, c5, rfl⟩ := ho.form
    have HO := Lib.hid ho
    by_cases hlt : k < L.length
    · obtain ⟨ad, hAv, hab, z0, z1, z2, hn⟩ := (HVR.out wr HRr.out.be).cells hlt
      have HLT := Lib.hid (lookL_take (VV := VV) (L := L) hlt)
      have hgl := HLL.out k
      obtain ⟨T, hT⟩ : ∃ T, T = lookL VV L (L.take k) := ⟨_, rfl⟩
      rw [← hT] at HO HLT hgl ⊢
      obtain ⟨v, hve⟩ : ∃ v, v = L[k] := ⟨_, rfl⟩
      rw [← hve] at z0 z1 z2 hn HLT
      have CV1 := fun w' => CV.out v w' hn
      rw [show vkL v.k v.n mm t fs body client score l ck = VV v by rw [HVV.out]] at CV1
      have CV1 := Lib.hid CV1
      have hVl := HVL.out v
      have hONE : oneV VV L v = if v.m = 2 then [] else if v.m = 1 then oneL (scS (keepL L v.k (VV v)).length) else keepL L v.k (VV v) := rfl
      rw [hONE] at HLT
      obtain ⟨vk, vm, vn⟩ := v
      dsimp only at z0 z1 z2 hn HLT CV1
      have hal := (Below.refl wr.heap.size wr).alloc (Nat.le_refl _) (.cells #[.int .i64 vk, .int .i64 vm, .string vn] 31)
      have HO2 := Lib.hid (HO.out.kept hal)
      have hr2 := HRr.out.step hal
      have hk2 := Blk.new wr 31 #[.int .i64 vk, .int .i64 vm, .string vn]
      clear hT hve ho hal hONE
      subst hAv
      go_upto_region 5 with fail
      obtain ⟨V, hV⟩ : ∃ V, wr.alloc (.cells #[.int .i64 vk, .int .i64 vm, .string vn] 31) = V := ⟨_, rfl⟩
      rw [hV] at HO2 hr2 hk2 ⊢
      obtain ⟨g, hg⟩ : ∃ g, wr.heap.size = g := ⟨_, rfl⟩
      rw [hg] at hk2 ⊢
      have y0 : V.cell? ⟨g, 0, none⟩ = some (.int .i64 vk) := hk2.cell 0
      have y1 : V.cell? ⟨g, 1, none⟩ = some (.int .i64 vm) := hk2.cell 1
      have y2 : V.cell? ⟨g, 2, none⟩ = some (.string vn) := hk2.cell 2
      obtain ⟨r0, r1, r2, r3⟩ := hr2.facts
      have HK := Lib.hid hk2
      have HRV := Lib.hid hr2
      clear hV hk2 hr2 hg z0 z1 z2
      by_cases m2 : vm = 2
      · subst m2
        have HL1 : Hid (lookL VV L (L.take (k + 1)) = T) := Lib.hid (by rw [HLT.out]; simp)
        go_wp2_with fail
        go_roundw
        case rel => exact ⟨k + 1, by omega, by go_num, by rw [HL1.out]; exact HO2.out, HRV⟩
        case measure => simp [intOf]; omega
      · have f2 : (vm == 2) = false := by rw [beq_eq_false_iff_ne]; exact m2
        replace HLT : Hid (lookL VV L (L.take (k + 1)) = T ++ (if vm = 1 then oneL (scS (keepL L vk (VV ⟨vk, vm, vn⟩)).length) else keepL L vk (VV ⟨vk, vm, vn⟩))) := Lib.hid (by rw [HLT.out, if_neg m2])
        obtain ⟨G, hG⟩ : ∃ G, G = VV ⟨vk, vm, vn⟩ := ⟨_, rfl⟩
        rw [← hG] at HLT CV1 hVl
        clear hG
        go_wp2_with fail
        refine (CV1.out _ HRV.out.be).mono ?_
        rintro e w2 ⟨u2, rfl, hu2, hb2⟩
        obtain ⟨A2, c2, rfl⟩ := hu2.form
        have HU2 := Lib.hid hu2
        have HR2 := Lib.hid (HRV.out.step hb2)
        have HO3 := Lib.hid (HO2.out.kept hb2)
        have HK2 := Lib.hid (HK.out.below hb2 HK.out.lt)
        clear hb2 hu2
        go_wp2_with fail
        obtain ⟨wm, rfl⟩ : ∃ wm : World, wm = wr := ⟨_, rfl⟩
        go_loopw [16, 36] (fun u i wx => ∃ j : Nat, j ≤ G.length ∧ i = .int .i64 j ∧ OP 34 wx w2.heap.size u (keepL L vk (G.take j)) ∧ Below w2.heap.size w2 wx) (fun _ i _ => G.length - (intOf i).toNat)
        case atStart => exact ⟨0, by omega, rfl, OP.nil _ _ _, Below.refl _ _⟩
        case round =>
          obtain ⟨wx, rfl⟩ : ∃ wx : World, wx = wr := ⟨_, rfl⟩
          obtain ⟨j, hj, rfl, ho4, hb4⟩ := hrel
          obtain ⟨A4, c4, rfl⟩ := ho4.form
          have HO4 := Lib.hid ho4
          have HB4 := Lib.hid hb4
          have hk4 := HK2.out.below hb4 HK2.out.lt
          by_cases hjt : j < G.length
          · have HY : Hid (L.any (noB vk G[j].n) = false → keepL L vk (G.take (j + 1)) = keepL L vk (G.take j) ++ [G[j]]) := Lib.hid (keepL_yes hjt)
            have HN : Hid (L.any (noB vk G[j].n) = true → keepL L vk (G.take (j + 1)) = keepL L vk (G.take j)) := Lib.hid (keepL_no hjt)
            have hkl : (keepL L vk (G.take j)).length ≤ 1048577 := Nat.le_trans (keepL_le _ _ _) (by rw [List.length_take]; omega)
            obtain ⟨S, hS⟩ : ∃ S, S = keepL L vk (G.take j) := ⟨_, rfl⟩
            rw [← hS] at HO4 HY HN hkl ⊢
            obtain ⟨a0, rfl, _, p0, p1⟩ := (HU2.out.fdQ.below hb4).cells hjt
            obtain ⟨f, hfe⟩ : ∃ f, f = G[j] := ⟨_, rfl⟩
            rw [← hfe] at p0 p1 HY HN
            have hal := (Below.refl wx.heap.size wx).alloc (Nat.le_refl _) (.cells #[.string f.n, .string f.v] 34)
            have HO5 := Lib.hid (HO4.out.kept hal)
            have HB5 := Lib.hid (HB4.out.trans (hal.mono HB4.out.size))
            have hk5 := hk4.below hal hk4.lt
            have hk6 := Blk.new wx 34 #[.string f.n, .string f.v]
            clear hS hfe hb4 ho4 hal hk4
            go_upto_region 10 with fail
            obtain ⟨X, hX⟩ : ∃ X, wx.alloc (.cells #[.string f.n, .string f.v] 34) = X := ⟨_, rfl⟩
            rw [hX] at HO5 HB5 hk5 hk6 ⊢
            obtain ⟨g6, hg6⟩ : ∃ g6, wx.heap.size = g6 := ⟨_, rfl⟩
            rw [hg6] at hk6 ⊢
            have HK6 := Lib.hid hk6
            have hc6 := CC.out vk f.n g g6 X ((HR2.out.be.trans (HB5.out.mono HR2.out.be.size))) (hk5.cell 0) (hk6.cell 0)
            have HC6 := Lib.hid hc6
            clear hX hg6 hk5 hk6 hc6 p0 p1
            go_wp2_with fail
            refine HC6.out.mono ?_
            rintro e w7 ⟨rfl, hb7⟩
            have HO7 := Lib.hid (HO5.out.kept hb7)
            have HB7 := Lib.hid (HB5.out.trans (hb7.mono HB5.out.size))
            have hk7 := HK6.out.below hb7 HK6.out.lt
            have s0 : w7.cell? ⟨g6, 0, none⟩ = some (.string f.n) := hk7.cell 0
            have s1 : w7.cell? ⟨g6, 1, none⟩ = some (.string f.v) := hk7.cell 1
            clear hb7 hk7 HC6
            cases hq : L.any (noB vk f.n) with
            | true =>
              have HN2 := Lib.hid (HN.out hq)
              clear hq
              go_wp2_with fail
              go_roundw
              case rel => exact ⟨j + 1, by omega, by go_num, by rw [HN2.out]; exact HO7.out, HB7.out⟩
              case measure => simp [intOf]; omega
            | false =>
              have HY2 := Lib.hid (HY.out hq)
              clear hq
              go_wp2_with (at_builtin; refine wpL_appP infoArg Tryd.underlying29 rfl (.tmp 44) (.tmp 46) rfl HO7.out rfl ⟨f.n, f.v⟩ rfl rfl (by omega) HB7.out.size ?_; intro v8 w8 ho8 _ hb8)
              have HO8 : Hid (OP 34 w8 w2.heap.size v8 (keepL L vk (G.take (j + 1)))) := Lib.hid (by rw [HY2.out]; exact ho8)
              have HB8 := Lib.hid (HB7.out.trans hb8)
              clear ho8 hb8
              go_wp2_with fail
              go_roundw
              case rel => exact ⟨j + 1, by omega, by go_num, HO8.out, HB8.out⟩
              case measure => simp [intOf]; omega
          · have hkl : (keepL L vk (G.take j)).length ≤ 1048577 := Nat.le_trans (keepL_le _ _ _) (by rw [List.length_take]; omega)
            obtain ⟨S, hS⟩ : ∃ S, S = keepL L vk (G.take j) := ⟨_, rfl⟩
            rw [← hS] at HO4 hkl ⊢
            rw [List.take_of_length_le (by omega)] at hS
            rw [← hS] at HLT
            obtain rfl : j = G.length := by omega
            have HR4 := Lib.hid (HR2.out.step hb4)
            have HO9 := Lib.hid (HO3.out.kept hb4)
            have q1 : wx.cell? ⟨g, 1, none⟩ = some (.int .i64 vm) := hk4.cell 1
            clear hb4 ho4 hk4 hS
            by_cases m1 : vm = 1
            · subst m1
              have HL1 : Hid (lookL VV L (L.take (k + 1)) = T ++ oneL (scS S.length)) := Lib.hid (by rw [HLT.out]; rfl)
              go_wp2_with fail
              refine (CI.out S.length _ hkl HR4.out.be).mono ?_
              rintro e w6 ⟨rfl, hb6⟩
              have HR6 := Lib.hid (HR4.out.step hb6)
              have HO6 := Lib.hid (HO9.out.kept hb6)
              clear hb6
              go_wp2_with fail
              refine (CO.out _ _).mono ?_
              rintro e w7 ⟨u7, rfl, ho7, hb7⟩
              have HR7 := Lib.hid (HR6.out.step hb7)
              have HO7 := Lib.hid (HO6.out.kept hb7)
              have HU7 := Lib.hid ho7
              clear hb7 ho7
              have hol : (oneL (scS (S.length : Int))).length = 1 := rfl
              have HB7 := Lib.hid HR7.out.qb.lt
              go_wp2_with (at_builtin; refine wpL_appPP infoArg Tryd.underlying29 rfl (.tmp 56) (.tmp 57) rfl HO7.out rfl HU7.out rfl (by show T.length + 1 ≤ _; omega) HB7.out ?_; intro v8 w8 ho8 _ hb8)
              have HO8 : Hid (OP 34 w8 (w.heap.size + 1) v8 (lookL VV L (L.take (k + 1)))) := Lib.hid (by rw [HL1.out]; exact ho8)
              have HR8 := Lib.hid (HR7.out.step2 hb8)
              clear ho8 hb8
              go_wp2_with fail
              go_roundw
              case rel => exact ⟨k + 1, by omega, by go_num, HO8.out, HR8⟩
              case measure => simp [intOf]; omega
            · have f1 : (vm == 1) = false := by rw [beq_eq_false_iff_ne]; exact m1
              have HL1 : Hid (lookL VV L (L.take (k + 1)) = T ++ S) := Lib.hid (by rw [HLT.out, if_neg m1])
              have HB7 := Lib.hid HR4.out.qb.lt
              go_wp2_with (at_builtin; refine wpL_appPP infoArg Tryd.underlying29 rfl (.tmp 56) (.tmp 57) rfl HO9.out rfl HO4.out rfl (by omega) HB7.out ?_; intro v8 w8 ho8 _ hb8)
              have HO8 : Hid (OP 34 w8 (w.heap.size + 1) v8 (lookL VV L (L.take (k + 1)))) := Lib.hid (by rw [HL1.out]; exact ho8)
              have HR8 := Lib.hid (HR4.out.step2 hb8)
              clear ho8 hb8
              go_wp2_with fail
              go_roundw
              case rel => exact ⟨k + 1, by omega, by go_num, HO8.out, HR8⟩
              case measure => simp [intOf]; omega
    · obtain rfl : k = L.length := by omega
      have HO2 : Hid (OP 34 wr w.heap.size (.slice A5 (lookL VV L (L.take L.length)).length c5) (lookL VV L L)) := Lib.hid (by have := HO.out.mono (Nat.le_succ _); rw [List.take_length] at this ⊢; exact this)
      clear ho
      go_wp2_with fail
      go_ret
      exact ⟨_, rfl, HO2.out, HRr.out.be⟩
end Go.Proofs.YthfolopnjmkllaaDoor
