/- Walk: wickref.Looked. (printed by gen_allc.py) -/
import Derived.Test.YthfolopnjmkllaaDoorAllB
import Derived.Deep.RegionHeld3
namespace Go.Proofs.YthfolopnjmkllaaDoor
open Go.RowKit
set_option linter.unusedVariables false
set_option linter.unusedSimpArgs false

theorem OP.keptG {t : TypeId} {w w' : World} {B : Nat} {u v v' : Value} {k : List Fd} (h : OP t w B u k) (hg : Grew w w' v v') (hne : ∀ g, u.ownBlock = some g → v.ownBlock ≠ some g) : OP t w' B u k ∧ ∀ g, u.ownBlock = some g → v'.ownBlock ≠ some g := by
  refine ⟨World.ownsRow.kept h hg.grown ?_, fun g hu => hg.off (World.ownsRow.lt h g hu).2 (hne g hu)⟩
  cases hu : u.ownBlock with
  | none => exact .inl rfl
  | some g => exact .inr fun e => hne g hu e.symm
theorem any_take {p : Vr → Bool} {L : List Vr} {k : Nat} (h : k < L.length) : (L.take (k + 1)).any p = ((L.take k).any p || p L[k]) := by
  rw [List.take_succ_eq_append_getElem h, List.any_append]; simp
/-- what stays while the values of a variable are looked through -/
structure Lk (w : World) (mm t : ByteArray) (A : Option Addr) (cap n : Nat) (body : ByteArray) (u v : Value) (G T : List Fd) (wr : World) : Prop where
  rb : Rb w mm t A cap n body wr
  ho : OP 34 wr (w.heap.size + 1) v T
  hu : OP 34 wr 0 u G
  ne : Hid (∀ g, u.ownBlock = some g → v.ownBlock ≠ some g)
section
variable {w wr wr' : World} {mm t : ByteArray} {A : Option Addr} {cap n : Nat} {body : ByteArray} {u v v' : Value} {G T T' : List Fd}
theorem Lk.step (h : Lk w mm t A cap n body u v G T wr) (hb : Below wr.heap.size wr wr') : Lk w mm t A cap n body u v G T wr' := ⟨h.rb.step hb, h.ho.kept hb, h.hu.kept hb, h.ne⟩
theorem Lk.app (h : Lk w mm t A cap n body u v G T wr) (ho : OP 34 wr' (w.heap.size + 1) v' T') (hg : Grew wr wr' v v') (hb : Below (w.heap.size + 1) wr wr') : Lk w mm t A cap n body u v' G T' wr' :=
  ⟨h.rb.step2 hb, ho, (h.hu.keptG hg h.ne.out).1, (h.hu.keptG hg h.ne.out).2⟩
end
set_option maxRecDepth 100000 in
set_option maxHeartbeats 16000000 in
theorem rall_any (L : List Vr) (mm t : ByteArray) (A : Option Addr) (cap : Nat) (fs : List Fd) (body : ByteArray) (client : Nat) (score : Int) (Al Ac Av : Option Addr) (capl capc capv : Nat) (l ck : List Fd) (w : World)
    (hv : VrR w w.heap.size Av capv L) (hvl : L.length ≤ 1048576)
    (hmz : mm.size ≤ 1048576) (htz : t.size ≤ 1048576) (hbz : body.size ≤ 1048576) (hf : FdR w w.heap.size A cap fs) (hfl : fs.length ≤ 1048577) (hl : FdR w w.heap.size Al capl l) (hll : l.length ≤ 1048577) (hc : FdR w w.heap.size Ac capc ck) (hcl : ck.length ≤ 1048577)
    (hcz : client < 4294967296) (hs0 : -9223372036854775808 ≤ score) (hs1 : score ≤ 9223372036854775807) (hT : TwN w) :
    Calls Tryd.prog 9 #[.slice Av L.length capv, .agg #[.string mm, .string t, .slice A fs.length cap, .string body], .int .u32 client, .int .i64 score, .slice Al l.length capl, .slice Ac ck.length capc] w (ValRes (lookL (fun v => vkL v.k v.n mm t fs body client score l ck) L L) w) := by
  obtain ⟨W, hW⟩ : ∃ W, w.alloc (.cells #[.string mm, .string t, .slice A fs.length cap, .string body] 27) = W := ⟨_, rfl⟩
  have hR : Rb w mm t A cap fs.length body W := by rw [← hW]; exact ⟨Blk.new _ _ _, (Below.refl _ _).alloc (Nat.le_refl _) _⟩
  have CV := Lib.hid fun (v : Vr) w' (hn : v.n.size ≤ 1048576) (hb : Below w.heap.size w w') => rvalues_any v.k v.m v.n mm t A cap fs body client score Al Ac capl capc l ck w' hmz htz hbz hn (⟨(hf.below hb).1.more hb.size, hf.2⟩) hfl (⟨(hl.below hb).1.more hb.size, hl.2⟩) hll (⟨(hc.below hb).1.more hb.size, hc.2⟩) hcl hcz hs0 hs1 (hT.below hb)
  have CI := Lib.hid fun (n : Nat) w' (hn : n ≤ 1048577) (hb : Below w.heap.size w w') => itoaZ_any (n : Int) w' (by omega) (by omega) (hT.below hb)
  have HVR := Lib.hid fun w' (hb : Below w.heap.size w w') => hv.below hb
  obtain ⟨VV, hVV⟩ : ∃ VV, VV = fun v : Vr => vkL v.k v.n mm t fs body client score l ck := ⟨_, rfl⟩
  rw [← hVV]
  have HVL : Hid (∀ v, (VV v).length ≤ 1048577) := Lib.hid fun v => by rw [hVV]; exact vkL_le (by omega) hfl hll hcl
  have HVV := Lib.hid hVV
  have HLL : Hid (∀ k, (lookL VV L (L.take k)).length ≤ 1048576 * 1048577) := Lib.hid fun k => Nat.le_trans (lookL_le (by omega) HVL.out L (L.take k)) (Nat.mul_le_mul_right _ (by rw [List.length_take]; omega))
  have HR := Lib.hid hR
  obtain ⟨x0, x1, x2, x3⟩ := hR.facts
  obtain ⟨hcv1, hcv2⟩ : L.length ≤ capv ∧ capv ≤ 9223372036854775807 := ⟨hv.2.1, hv.2.2.1⟩
  clear hR hT hf hl hc hVV hv
  go_enter Tryd.func9, Tryd.ntmps9
  go_wp2_with fail
  go_loopw [13, 14] (fun v i wr => ∃ k : Nat, k ≤ L.length ∧ i = .int .i64 k ∧ OP 34 wr (w.heap.size + 1) v (lookL VV L (L.take k)) ∧ Rb w mm t A cap fs.length body wr) (fun _ i _ => L.length - (intOf i).toNat)
  case atStart => exact ⟨0, by omega, rfl, OP.nil _ _ _, HR.out⟩
  case round =>
    obtain ⟨k, hk, rfl, ho, hrr⟩ := hrel
    obtain ⟨A5, c5, rfl⟩ := ho.form
    have HO := Lib.hid ho
    have HRr := Lib.hid hrr
    by_cases hlt : k < L.length
    · obtain ⟨ad, hAv, hab, z0, z1, z2, hn⟩ := (HVR.out wr hrr.be).cells hlt
      have HLT := Lib.hid (lookL_take (VV := VV) (L := L) hlt)
      have hgl := HLL.out k
      obtain ⟨T, hT⟩ : ∃ T, T = lookL VV L (L.take k) := ⟨_, rfl⟩
      rw [← hT] at HO HLT hgl ⊢
      obtain ⟨v, hve⟩ : ∃ v, v = L[k] := ⟨_, rfl⟩
      rw [← hve] at z0 z1 z2 hn HLT
      have CV1 := fun w' => CV.out v w' hn
      rw [show vkL v.k v.n mm t fs body client score l ck = VV v by rw [HVV.out]] at CV1
      have CV1 := Lib.hid CV1
      have hVl := HVL.out v
      have hONE : oneV VV L v = if v.m = 2 then [] else if v.m = 1 then oneL (scS (keepL L v.k (VV v)).length) else keepL L v.k (VV v) := rfl
      rw [hONE] at HLT
      have HVE := Lib.hid hve
      obtain ⟨vk, vm, vn⟩ := v
      dsimp only at z0 z1 z2 hn HLT CV1
      obtain ⟨r0, r1, r2, r3⟩ := hrr.facts
      clear hT hve ho hONE hrr
      subst hAv
      by_cases m2 : vm = 2
      · subst m2
        have HL1 : Hid (lookL VV L (L.take (k + 1)) = T) := Lib.hid (by rw [HLT.out]; simp)
        go_wp2_with fail
        go_roundw
        case rel => exact ⟨k + 1, by omega, by go_num, by rw [HL1.out]; exact HO.out, HRr.out⟩
        case measure => simp [intOf]; omega
      · have f2 : (vm == 2) = false := by rw [beq_eq_false_iff_ne]; exact m2
        replace HLT : Hid (lookL VV L (L.take (k + 1)) = T ++ (if vm = 1 then oneL (scS (keepL L vk (VV ⟨vk, vm, vn⟩)).length) else keepL L vk (VV ⟨vk, vm, vn⟩))) := Lib.hid (by rw [HLT.out, if_neg m2])
        obtain ⟨G, hG⟩ : ∃ G, G = VV ⟨vk, vm, vn⟩ := ⟨_, rfl⟩
        rw [← hG] at HLT CV1 hVl
        clear hG
        have hrd := HRr.out.step (below_drewN (Below.refl _ _) 1 : Below wr.heap.size wr wr.drew)
        have HS : Hid (∀ w', Rb w mm t A cap fs.length body w' → w'.cell? (ad.add (k * 3)) = some (.int .i64 vk) ∧ w'.cell? ⟨(ad.add (k * 3)).block, (ad.add (k * 3)).off + 1, none⟩ = some (.int .i64 vm) ∧ w'.cell? ⟨(ad.add (k * 3)).block, (ad.add (k * 3)).off + 2, none⟩ = some (.string vn) ∧ w'.cell? ⟨w.heap.size, 0, none⟩ = some (.string mm) ∧ w'.cell? ⟨w.heap.size, 1, none⟩ = some (.string t) ∧ w'.cell? ⟨w.heap.size, 2, none⟩ = some (.slice A fs.length cap) ∧ w'.cell? ⟨w.heap.size, 3, none⟩ = some (.string body)) := Lib.hid fun w' h => by
          obtain ⟨ad3, e3, _, c0, c1, c2, _⟩ := (HVR.out w' h.be).cells hlt
          cases e3
          rw [← HVE.out] at c0 c1 c2
          exact ⟨c0, c1, c2, h.facts⟩
        go_wp2_with fail
        go_region_held3 (fun w' => w'.cell? (ad.add (k * 3)) = some (.int .i64 vk) ∧ w'.cell? ⟨(ad.add (k * 3)).block, (ad.add (k * 3)).off + 1, none⟩ = some (.int .i64 vm) ∧ w'.cell? ⟨(ad.add (k * 3)).block, (ad.add (k * 3)).off + 2, none⟩ = some (.string vn) ∧ w'.cell? ⟨w.heap.size, 0, none⟩ = some (.string mm) ∧ w'.cell? ⟨w.heap.size, 1, none⟩ = some (.string t) ∧ w'.cell? ⟨w.heap.size, 2, none⟩ = some (.slice A fs.length cap) ∧ w'.cell? ⟨w.heap.size, 3, none⟩ = some (.string body)) (exact HS.out _ (by assumption))
          (first
            | (go_at_call 7; (refine (CV1.out _ hrd.be).mono ?_); rintro e w2 ⟨u2, rfl, hu2, hb2⟩; have hrw := hrd.step hb2)
            | fail)
        skip
        · obtain ⟨A2, c2, rfl⟩ := hu2.form
          have HK2 : Hid (Lk w mm t A cap fs.length body (.slice A2 G.length c2) (.slice A5 T.length c5) G T w2) := Lib.hid ⟨hrd.step hb2, (HO.out.kept (below_drewN (Below.refl _ _) 1 : Below wr.heap.size wr wr.drew)).kept hb2, hu2.mono (Nat.zero_le _), fun g hg e => by
            have h1 : wr.heap.size ≤ g := (World.ownsRow.lt hu2 g hg).1
            have h2 := (World.ownsRow.lt HO.out g e).2
            omega⟩
          clear hb2 hu2 hrd hrw r0 r1 r2 r3 z0 z1 z2
          go_wp2_with fail
          obtain ⟨wm, rfl⟩ : ∃ wm : World, wm = wr := ⟨_, rfl⟩
          by_cases m1 : vm = 1
          · subst m1
            go_loopw [13, 16, 17] (fun v n i wx => ∃ (j : Nat), j ≤ G.length ∧ i = .int .i64 j ∧ n = .int .i64 (keepL L vk (G.take j)).length ∧ Hid (Lk w mm t A cap fs.length body (.slice A2 G.length c2) v G T wx)) (fun _ _ i _ => G.length - (intOf i).toNat)
            case atStart => exact ⟨0, by omega, rfl, rfl, HK2⟩
            case round =>
              obtain ⟨wx, rfl⟩ : ∃ wx : World, wx = wr := ⟨_, rfl⟩
              obtain ⟨j, hj, rfl, rfl, HKx⟩ := hrel
              obtain ⟨A4, c4, rfl⟩ := HKx.out.ho.form
              by_cases hjt : j < G.length
              · have HY : Hid (L.any (noB vk G[j].n) = false → keepL L vk (G.take (j + 1)) = keepL L vk (G.take j) ++ [G[j]]) := Lib.hid (keepL_yes hjt)
                have HN : Hid (L.any (noB vk G[j].n) = true → keepL L vk (G.take (j + 1)) = keepL L vk (G.take j)) := Lib.hid (keepL_no hjt)
                have hkl : (keepL L vk (G.take j)).length ≤ 1048577 := Nat.le_trans (keepL_le _ _ _) (by rw [List.length_take]; omega)
                obtain ⟨S, hS⟩ : ∃ S, S = keepL L vk (G.take j) := ⟨_, rfl⟩
                rw [← hS] at HY HN hkl ⊢
                obtain ⟨a0, hA2, _, p0, p1⟩ := HKx.out.hu.fdQ.cells hjt
                obtain ⟨f, hfe⟩ : ∃ f, f = G[j] := ⟨_, rfl⟩
                rw [← hfe] at p0 p1 HY HN
                obtain ⟨ad2, e2, _, zk, zm, zn, _⟩ := (HVR.out wx HKx.out.rb.be).cells hlt
                cases e2
                rw [← HVE.out] at zk zm zn
                dsimp only at zk zm zn
                clear hS hfe
                subst hA2
                go_wp2_with fail
                go_loopw [18, 19] (fun b i wy => ∃ (j2 : Nat) (bb : Bool) (qq : Nat), j2 ≤ L.length ∧ i = .int .i64 j2 ∧ b = .bool bb ∧ Hid (bb = (L.take j2).any (noB vk f.n)) ∧ wy = wx.drewN qq) (fun _ i _ => L.length - (intOf i).toNat)
                case atStart => exact ⟨0, false, 0, by omega, rfl, rfl, rfl, rfl⟩
                case round =>
                  obtain ⟨j2, bb, qq, hj2, rfl, rfl, HB0, rfl⟩ := hrel
                  by_cases hj2t : j2 < L.length
                  · obtain ⟨ad', e', _, x0, x1, x2, xz⟩ := (HVR.out wx HKx.out.rb.be).cells hj2t
                    have HAT := Lib.hid (any_take (p := noB vk f.n) hj2t)
                    obtain ⟨x, hx⟩ : ∃ x, x = L[j2] := ⟨_, rfl⟩
                    rw [← hx] at x0 x1 x2 xz HAT
                    obtain ⟨xk, xm, xn⟩ := x
                    dsimp only at x0 x1 x2 xz
                    cases e'
                    clear hx
                    have hNB : noB vk f.n ⟨xk, xm, xn⟩ = (xm == 2 && (xk == vk && (xn.toList.isEmpty || (xn.toList == f.n.toList)))) := rfl
                    rw [hNB] at HAT
                    clear hNB
                    cases bb with
                    | true =>
                      have HX : Hid (((L.take (j2 + 1)).any (noB vk f.n)) = true) := Lib.hid (by rw [HAT.out, ← HB0.out]; rfl)
                      go_wp2_with fail
                      go_quiet (fail)
                      go_wp2_with fail
                      go_roundw
                      case rel => exact ⟨j2 + 1, true, _, by omega, by go_num, rfl, HX.out.symm, rfl⟩
                      case measure => simp [intOf]; omega
                    | false =>
                      cases q1 : (xm == 2) with
                      | false =>
                        have HX : Hid (((L.take (j2 + 1)).any (noB vk f.n)) = false) := Lib.hid (by rw [HAT.out, ← HB0.out]; rw [q1]; rfl)
                        go_wp2_with fail
                        go_quiet (fail)
                        go_wp2_with fail
                        go_roundw
                        case rel => exact ⟨j2 + 1, false, _, by omega, by go_num, rfl, HX.out.symm, rfl⟩
                        case measure => simp [intOf]; omega
                      | true =>
                        cases q2 : (xk == vk) with
                        | false =>
                          have HX : Hid (((L.take (j2 + 1)).any (noB vk f.n)) = false) := Lib.hid (by rw [HAT.out, ← HB0.out]; rw [q1, q2]; rfl)
                          go_wp2_with fail
                          go_quiet (fail)
                          go_wp2_with fail
                          go_roundw
                          case rel => exact ⟨j2 + 1, false, _, by omega, by go_num, rfl, HX.out.symm, rfl⟩
                          case measure => simp [intOf]; omega
                        | true =>
                          cases q3 : xn.toList.isEmpty with
                          | true =>
                            have HX : Hid (((L.take (j2 + 1)).any (noB vk f.n)) = true) := Lib.hid (by rw [HAT.out, ← HB0.out]; rw [q1, q2, q3]; rfl)
                            go_wp2_with fail
                            go_quiet (fail)
                            go_wp2_with fail
                            go_roundw
                            case rel => exact ⟨j2 + 1, true, _, by omega, by go_num, rfl, HX.out.symm, rfl⟩
                            case measure => simp [intOf]; omega
                          | false =>
                            cases q4 : (xn.toList == f.n.toList) with
                            | true =>
                              have HX : Hid (((L.take (j2 + 1)).any (noB vk f.n)) = true) := Lib.hid (by rw [HAT.out, ← HB0.out]; rw [q1, q2, q3, q4]; rfl)
                              go_wp2_with fail
                              go_quiet (fail)
                              go_wp2_with fail
                              go_roundw
                              case rel => exact ⟨j2 + 1, true, _, by omega, by go_num, rfl, HX.out.symm, rfl⟩
                              case measure => simp [intOf]; omega
                            | false =>
                              have HX : Hid (((L.take (j2 + 1)).any (noB vk f.n)) = false) := Lib.hid (by rw [HAT.out, ← HB0.out]; rw [q1, q2, q3, q4]; rfl)
                              go_wp2_with fail
                              go_quiet (fail)
                              go_wp2_with fail
                              go_roundw
                              case rel => exact ⟨j2 + 1, false, _, by omega, by go_num, rfl, HX.out.symm, rfl⟩
                              case measure => simp [intOf]; omega
                  · obtain rfl : j2 = L.length := by omega
                    rw [List.take_length] at HB0
                    have HKy := Lib.hid (HKx.out.step (below_drewN (Below.refl _ _) qq))
                    cases bb with
                    | true =>
                      have HN2 := Lib.hid (HN.out HB0.out.symm)
                      go_wp2_with fail
                      go_roundw
                      case rel => exact ⟨j + 1, by omega, by go_num, by rw [HN2.out], HKy⟩
                      case measure => simp [intOf]; omega
                    | false =>
                      have HY2 := Lib.hid (HY.out HB0.out.symm)
                      have hwr : IntKind.i64.wrap ((S.length : Int) + 1) = (S.length : Int) + 1 := IntWalk.i64_in _ (by omega)
                      have hlen2 : ((S ++ [f]).length : Int) = (S.length : Int) + 1 := by rw [List.length_append]; rfl
                      go_wp2_with fail
                      go_roundw
                      case rel => exact ⟨j + 1, by omega, by go_num, by rw [HY2.out, hlen2], HKy⟩
                      case measure => simp [intOf]; omega
              · have hkl : (keepL L vk (G.take j)).length ≤ 1048577 := Nat.le_trans (keepL_le _ _ _) (by rw [List.length_take]; omega)
                obtain ⟨S, hS⟩ : ∃ S, S = keepL L vk (G.take j) := ⟨_, rfl⟩
                rw [← hS] at hkl ⊢
                rw [List.take_of_length_le (by omega)] at hS
                rw [← hS] at HLT
                obtain rfl : j = G.length := by omega
                obtain ⟨ad2, e2, _, zk, zm, zn, _⟩ := (HVR.out wx HKx.out.rb.be).cells hlt
                cases e2
                rw [← HVE.out] at zk zm zn
                dsimp only at zk zm zn
                clear hS
                have HL1 : Hid (lookL VV L (L.take (k + 1)) = T ++ oneL (scS S.length)) := Lib.hid (by rw [HLT.out]; rfl)
                go_wp2_with fail
                refine (CI.out S.length _ hkl HKx.out.rb.be).mono ?_
                rintro e w6 ⟨rfl, hb6⟩
                have HK6 := Lib.hid (HKx.out.step hb6)
                have HB6 := Lib.hid HK6.out.rb.qb.lt
                clear hb6
                go_wp2_with (at_builtin; refine wpL_appP infoArg Tryd.underlying29 rfl (.tmp 119) (.tmp 123) rfl HK6.out.ho rfl ⟨ByteArray.empty, scS S.length⟩ rfl rfl (by omega) HB6.out ?_; intro v8 w8 ho8 hg8 hb8)
                have HO8 : Hid (OP 34 w8 (w.heap.size + 1) v8 (lookL VV L (L.take (k + 1)))) := Lib.hid (by rw [HL1.out]; exact ho8)
                have HR8 := Lib.hid (HK6.out.rb.step2 hb8)
                clear ho8 hg8 hb8
                go_wp2_with fail
                go_roundw
                case rel => exact ⟨k + 1, by omega, by go_num, HO8.out, HR8⟩
                case measure => simp [intOf]; omega
          · have f1 : (vm == 1) = false := by rw [beq_eq_false_iff_ne]; exact m1
            have f1n : (vm != 1) = true := by rw [bne, f1]; rfl
            replace HK2 : Hid (Lk w mm t A cap fs.length body (.slice A2 G.length c2) (.slice A5 T.length c5) G (T ++ keepL L vk (G.take 0)) w2) := Lib.hid (by rw [List.take_zero]; show Lk _ _ _ _ _ _ _ _ _ _ (T ++ []) _; rw [List.append_nil]; exact HK2.out)
            go_loopw [13, 16, 17] (fun v n i wx => ∃ (j : Nat), j ≤ G.length ∧ i = .int .i64 j ∧ n = .int .i64 (keepL L vk (G.take j)).length ∧ Hid (Lk w mm t A cap fs.length body (.slice A2 G.length c2) v G (T ++ keepL L vk (G.take j)) wx)) (fun _ _ i _ => G.length - (intOf i).toNat)
            case atStart => exact ⟨0, by omega, rfl, rfl, HK2⟩
            case round =>
              obtain ⟨wx, rfl⟩ : ∃ wx : World, wx = wr := ⟨_, rfl⟩
              obtain ⟨j, hj, rfl, rfl, HKx⟩ := hrel
              obtain ⟨A4, c4, rfl⟩ := HKx.out.ho.form
              by_cases hjt : j < G.length
              · have HY : Hid (L.any (noB vk G[j].n) = false → keepL L vk (G.take (j + 1)) = keepL L vk (G.take j) ++ [G[j]]) := Lib.hid (keepL_yes hjt)
                have HN : Hid (L.any (noB vk G[j].n) = true → keepL L vk (G.take (j + 1)) = keepL L vk (G.take j)) := Lib.hid (keepL_no hjt)
                have hkl : (keepL L vk (G.take j)).length ≤ 1048577 := Nat.le_trans (keepL_le _ _ _) (by rw [List.length_take]; omega)
                obtain ⟨S, hS⟩ : ∃ S, S = keepL L vk (G.take j) := ⟨_, rfl⟩
                rw [← hS] at HKx HY HN hkl ⊢
                obtain ⟨a0, hA2, _, p0, p1⟩ := HKx.out.hu.fdQ.cells hjt
                obtain ⟨f, hfe⟩ : ∃ f, f = G[j] := ⟨_, rfl⟩
                rw [← hfe] at p0 p1 HY HN
                obtain ⟨ad2, e2, _, zk, zm, zn, _⟩ := (HVR.out wx HKx.out.rb.be).cells hlt
                cases e2
                rw [← HVE.out] at zk zm zn
                dsimp only at zk zm zn
                clear hS hfe
                subst hA2
                go_wp2_with fail
                go_loopw [18, 19] (fun b i wy => ∃ (j2 : Nat) (bb : Bool) (qq : Nat), j2 ≤ L.length ∧ i = .int .i64 j2 ∧ b = .bool bb ∧ Hid (bb = (L.take j2).any (noB vk f.n)) ∧ wy = wx.drewN qq) (fun _ i _ => L.length - (intOf i).toNat)
                case atStart => exact ⟨0, false, 0, by omega, rfl, rfl, rfl, rfl⟩
                case round =>
                  obtain ⟨j2, bb, qq, hj2, rfl, rfl, HB0, rfl⟩ := hrel
                  by_cases hj2t : j2 < L.length
                  · obtain ⟨ad', e', _, x0, x1, x2, xz⟩ := (HVR.out wx HKx.out.rb.be).cells hj2t
                    have HAT := Lib.hid (any_take (p := noB vk f.n) hj2t)
                    obtain ⟨x, hx⟩ : ∃ x, x = L[j2] := ⟨_, rfl⟩
                    rw [← hx] at x0 x1 x2 xz HAT
                    obtain ⟨xk, xm, xn⟩ := x
                    dsimp only at x0 x1 x2 xz
                    cases e'
                    clear hx
                    have hNB : noB vk f.n ⟨xk, xm, xn⟩ = (xm == 2 && (xk == vk && (xn.toList.isEmpty || (xn.toList == f.n.toList)))) := rfl
                    rw [hNB] at HAT
                    clear hNB
                    cases bb with
                    | true =>
                      have HX : Hid (((L.take (j2 + 1)).any (noB vk f.n)) = true) := Lib.hid (by rw [HAT.out, ← HB0.out]; rfl)
                      go_wp2_with fail
                      go_quiet (fail)
                      go_wp2_with fail
                      go_roundw
                      case rel => exact ⟨j2 + 1, true, _, by omega, by go_num, rfl, HX.out.symm, rfl⟩
                      case measure => simp [intOf]; omega
                    | false =>
                      cases q1 : (xm == 2) with
                      | false =>
                        have HX : Hid (((L.take (j2 + 1)).any (noB vk f.n)) = false) := Lib.hid (by rw [HAT.out, ← HB0.out]; rw [q1]; rfl)
                        go_wp2_with fail
                        go_quiet (fail)
                        go_wp2_with fail
                        go_roundw
                        case rel => exact ⟨j2 + 1, false, _, by omega, by go_num, rfl, HX.out.symm, rfl⟩
                        case measure => simp [intOf]; omega
                      | true =>
                        cases q2 : (xk == vk) with
                        | false =>
                          have HX : Hid (((L.take (j2 + 1)).any (noB vk f.n)) = false) := Lib.hid (by rw [HAT.out, ← HB0.out]; rw [q1, q2]; rfl)
                          go_wp2_with fail
                          go_quiet (fail)
                          go_wp2_with fail
                          go_roundw
                          case rel => exact ⟨j2 + 1, false, _, by omega, by go_num, rfl, HX.out.symm, rfl⟩
                          case measure => simp [intOf]; omega
                        | true =>
                          cases q3 : xn.toList.isEmpty with
                          | true =>
                            have HX : Hid (((L.take (j2 + 1)).any (noB vk f.n)) = true) := Lib.hid (by rw [HAT.out, ← HB0.out]; rw [q1, q2, q3]; rfl)
                            go_wp2_with fail
                            go_quiet (fail)
                            go_wp2_with fail
                            go_roundw
                            case rel => exact ⟨j2 + 1, true, _, by omega, by go_num, rfl, HX.out.symm, rfl⟩
                            case measure => simp [intOf]; omega
                          | false =>
                            cases q4 : (xn.toList == f.n.toList) with
                            | true =>
                              have HX : Hid (((L.take (j2 + 1)).any (noB vk f.n)) = true) := Lib.hid (by rw [HAT.out, ← HB0.out]; rw [q1, q2, q3, q4]; rfl)
                              go_wp2_with fail
                              go_quiet (fail)
                              go_wp2_with fail
                              go_roundw
                              case rel => exact ⟨j2 + 1, true, _, by omega, by go_num, rfl, HX.out.symm, rfl⟩
                              case measure => simp [intOf]; omega
                            | false =>
                              have HX : Hid (((L.take (j2 + 1)).any (noB vk f.n)) = false) := Lib.hid (by rw [HAT.out, ← HB0.out]; rw [q1, q2, q3, q4]; rfl)
                              go_wp2_with fail
                              go_quiet (fail)
                              go_wp2_with fail
                              go_roundw
                              case rel => exact ⟨j2 + 1, false, _, by omega, by go_num, rfl, HX.out.symm, rfl⟩
                              case measure => simp [intOf]; omega
                  · obtain rfl : j2 = L.length := by omega
                    rw [List.take_length] at HB0
                    have HKy := Lib.hid (HKx.out.step (below_drewN (Below.refl _ _) qq))
                    cases bb with
                    | true =>
                      have HN2 := Lib.hid (HN.out HB0.out.symm)
                      go_wp2_with fail
                      go_roundw
                      case rel => exact ⟨j + 1, by omega, by go_num, by rw [HN2.out], by rw [HN2.out]; exact HKy⟩
                      case measure => simp [intOf]; omega
                    | false =>
                      have HY2 := Lib.hid (HY.out HB0.out.symm)
                      have hwr : IntKind.i64.wrap ((S.length : Int) + 1) = (S.length : Int) + 1 := IntWalk.i64_in _ (by omega)
                      have hlen2 : ((S ++ [f]).length : Int) = (S.length : Int) + 1 := by rw [List.length_append]; rfl
                      have HBz := Lib.hid HKy.out.rb.qb.lt
                      have hTS : (T ++ S).length ≤ 4000000000000 := by rw [List.length_append]; omega
                      obtain ⟨wz, hwz⟩ : ∃ wz, wz = wx.drewN qq := ⟨_, rfl⟩
                      rw [← hwz] at HKy HBz ⊢
                      have z0' : wz.cell? (a0.add (j * 2)) = some (.string f.n) := by rw [hwz]; exact p0
                      have z1' : wz.cell? ⟨(a0.add (j * 2)).block, (a0.add (j * 2)).off + 1, none⟩ = some (.string f.v) := by rw [hwz]; exact p1
                      have z2' : wz.cell? ⟨(ad.add (k * 3)).block, (ad.add (k * 3)).off + 1, none⟩ = some (.int .i64 vm) := by rw [hwz]; exact zm
                      clear hwz
                      go_wp2_with (at_builtin; refine wpL_appP infoArg Tryd.underlying29 rfl (.tmp 106) (.tmp 111) rfl HKy.out.ho rfl ⟨f.n, f.v⟩ rfl rfl hTS HBz.out ?_; intro v8 w8 ho8 hg8 hb8)
                      have HK8 := Lib.hid (HKy.out.app ho8 hg8 hb8)
                      clear ho8 hg8 hb8
                      go_wp2_with fail
                      go_roundw
                      case rel => exact ⟨j + 1, by omega, by go_num, by rw [HY2.out, hlen2], by rw [HY2.out, ← List.append_assoc]; exact HK8⟩
                      case measure => simp [intOf]; omega
              · have hkl : (keepL L vk (G.take j)).length ≤ 1048577 := Nat.le_trans (keepL_le _ _ _) (by rw [List.length_take]; omega)
                obtain ⟨S, hS⟩ : ∃ S, S = keepL L vk (G.take j) := ⟨_, rfl⟩
                rw [← hS] at HKx hkl ⊢
                rw [List.take_of_length_le (by omega)] at hS
                rw [← hS] at HLT
                obtain rfl : j = G.length := by omega
                obtain ⟨ad2, e2, _, zk, zm, zn, _⟩ := (HVR.out wx HKx.out.rb.be).cells hlt
                cases e2
                rw [← HVE.out] at zk zm zn
                dsimp only at zk zm zn
                clear hS
                have HL1 : Hid (lookL VV L (L.take (k + 1)) = T ++ S) := Lib.hid (by rw [HLT.out, if_neg m1])
                go_wp2_with fail
                go_roundw
                case rel => exact ⟨k + 1, by omega, by go_num, by rw [HL1.out]; exact HKx.out.ho, HKx.out.rb⟩
                case measure => simp [intOf]; omega
    · obtain rfl : k = L.length := by omega
      have HO2 : Hid (OP 34 wr w.heap.size (.slice A5 (lookL VV L (L.take L.length)).length c5) (lookL VV L L)) := Lib.hid (by have := HO.out.mono (Nat.le_succ _); rw [List.take_length] at this ⊢; exact this)
      clear ho
      go_wp2_with fail
      go_ret
      exact ⟨_, rfl, HO2.out, HRr.out.be⟩
end Go.Proofs.YthfolopnjmkllaaDoor
