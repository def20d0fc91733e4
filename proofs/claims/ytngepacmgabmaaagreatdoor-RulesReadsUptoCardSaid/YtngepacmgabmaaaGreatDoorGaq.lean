/- Walk: rules.Parse. -/
import Derived.Test.YtngepacmgabmaaaGreatDoorGao
import Derived.Test.YtngepacmgabmaaaGreatDoorGap
namespace Go.Proofs.YtngepacmgabmaaaGreatDoor
open Go.RowKit
set_option linter.unusedVariables false
set_option linter.unusedSimpArgs false
structure Pst (s t:ByteArray) (k:Nat) (X:List ByteArray):Prop where
 len:X.length=k
 ps:pcs s nlB=X++pcs t nlB
 le:t.size+k<=s.size
 er:lsE 0 (pcs s nlB)=lsE k (pcs t nlB)
section
variable (s:ByteArray) (m:Int) (w:World)
set_option maxRecDepth 100000 in
set_option maxHeartbeats 8000000 in
theorem kz6 (hs:s.size<=1048576) (hm:w.cell? ⟨4,0,none⟩=some (.int .i64 m)):
 Calls Tryz.prog 5 #[.string s] w (KN4 s w):=by
 have hgm:=World.block_lt_of_cell? _ _ hm;have HM:=qh λ w' (hb:Below w.heap.size w w')=>(hb.cell (p:=⟨4,0,none⟩) hgm).trans hm
 have hst:=P2.start w;unfold KN4;obtain⟨⟨EL,EE⟩,hE⟩:∃ E,E=txE s:=⟨_,rfl⟩;rw [<-hE];have HE:=qh hE;clear hm hE;dsimp only;by_cases h8:8192<s.size
 . have HF:Hid (EL=0/\EE=2):=qh (by have h:=HE.out;unfold txE at h;rw [if_pos h8] at h;cases h;exact⟨rfl,rfl⟩);have k1:(8192:Int)<(s.size:Int):=(by omega);go_enter Tryz.func5,Tryz.ntmps5;go_upto_region 1 with fail;obtain⟨W0,hW0⟩:∃ W0,w.alloc (.cells #[.int .i64 0,.int .i64 0,.slice none 0 0] 24)=W0:=⟨_,rfl⟩;have hz:Blk W0 w.heap.size 24 #[.int .i64 0,.int .i64 0,.slice none 0 0]:=(by rw [<-hW0];exact Blk.new _ _ _);have hb0:Below w.heap.size w W0:=(by rw [<-hW0];exact(Below.refl _ _).alloc (Nat.le_refl _) _);rw [hW0];clear hW0 hst;obtain⟨r0,r1,r2⟩:=zq5 hz;have f0:=hz.frozen 0;have f1:=hz.frozen 1;have f2:=hz.frozen 2;obtain⟨wz,hwz⟩:∃ wz,wz=ql7 W0 w.heap.size 0 0 (.slice none 0 0):=⟨_,rfl⟩;obtain⟨hzz,hzb⟩:=yj6 hz hb0 0 0 (.slice none 0 0);rw [<-hwz] at hzz hzb;unfold ql7 at hwz;have HZ:=qh hzz;have HZB:=qh hzb;have HWZ:=qh hwz;clear hz hb0 hzz hzb hwz;go_wp2_with fail;rw [<-HWZ.out];obtain⟨z0,z1,z2⟩:=zq5 HZ.out;refine bodyPost_ret (v:= .tuple #[.agg #[.int .i64 0,.int .i64 0,.slice none 0 0],.int .i64 EL,.int .i64 EE]) (by rw [HF.out.1,HF.out.2];simp [results,Tryz.results5,go_sem,z0,z1,z2]) rfl (RsR.bad HF.out.2 (by decide) HZB.out)
 . have k1:¬(8192:Int)<(s.size:Int):=(by omega);go_enter Tryz.func5,Tryz.ntmps5;go_upto_region 4 with fail;obtain⟨W0,hW0⟩:∃ W0,((w.alloc (.cells #[.int .i64 0,.int .i64 0,.slice none 0 0] 24)).alloc (.cells #[.int .i64 0,.int .i64 0,.slice none 0 0] 24))=W0:=⟨_,rfl⟩;rw [hW0] at hst;rw [hW0];have HV0:=qh hst;clear hW0 hst
   have HE2:Hid ((EL,EE)=if ¬(lsE 0 (pcs s nlB)).2=0 then lsE 0 (pcs s nlB) else (0,QR3 YX5 (rnN (wAt (qx4 ((pcs s nlB).getD 0 ByteArray.empty)) 1)) (rnN (wAt (qx4 ((pcs s nlB).getD 0 ByteArray.empty)) 2)) (((pcs s nlB).dropLast.drop 1).map λ x=>jD0 (qx4 x)))):=qh (by
    have h:=HE.out;unfold txE at h;rwa [if_neg h8] at h)
   have CC:=qh λ t w' (ht:t.size<=s.size) (hb:Below w.heap.size w w')=>YN5 t ⟨#[10]⟩ m w' (Nat.le_trans ht hs) (HM.out w' hb)
   have CS:=qh λ t w' (ht:t.size<=s.size) (hb:Below w.heap.size w w')=>qQ5 t ⟨#[32]⟩ m w' (Nat.le_trans ht hs) (HM.out w' hb) (by decide)
   clear HE k1;go_wp2_with fail;go_loopw [0,6] (λ v u wr=>∃ (k:Nat) (T:ByteArray) (A:Option Addr) (c:Nat) (most st:Int) (X:List ByteArray) (l:List Ru),v= .string T/\u= .int .i64 ((k:Int)+1)/\Hid (Pst s T k X)/\Hid (P2 w wr most st (.slice A l.length c))/\Hid (Rls w wr A c (X.drop 1) l)/\Hid (k≠0->most=rnN (wAt (qx4 (X.getD 0 ByteArray.empty)) 1)/\st=rnN (wAt (qx4 (X.getD 0 ByteArray.empty)) 2))/\l.length<=k/\k<=s.size) (λ _ u _=>s.size+2-(intOf u).toNat)
   case atStart=>exact⟨0,s,none,0,0,0,[],[],rfl,rfl,qh ⟨rfl,rfl,Nat.le_refl _,rfl⟩,HV0,qh (Rls.start w W0),qh λ h=>absurd rfl h,Nat.le_refl _,Nat.zero_le _⟩
   case round=>
    obtain⟨k,T,A,c,most,st,X,l,rfl,rfl,HP,HV,HL,HH,hlk,hks⟩:=hrel;have hts:T.size<=s.size:=(by have:=HP.out.le;omega);by_cases hgo:k=0\/0<T.size
    . have C1:=qh (CC.out T wr hts HV.out.be);cases hc:y27 T ⟨#[10]⟩ with
      |mk a bo=>
       obtain⟨b,o⟩:=bo;rw [hc] at C1;dsimp only at C1;cases o with
       |false=>
        have HF:Hid (EL=(k:Int)+1/\EE=3):=qh (by
         have h:=HE2.out;rw [HP.out.er,qm3 hc] at h;have e:lsE k [T]=((k:Int)+1,3):=if_pos hgo;rw [e,if_pos (show ¬(3:Int)=0 by decide)] at h;cases h;exact⟨rfl,rfl⟩)
        clear HE2 CS HH HP CC;rcases hgo with rfl|hT
        rotate_left
        focus
         by_cases k0:k=0
         focus
          subst k0
         rotate_left
         focus
          have q1:((k:Int)+1==1)=false:=(by rw [beq_eq_false_iff_ne];omega);have q3:¬(k:Int)+1=1:=(by omega);have q2:T.toList.isEmpty=false:=by rw [Lib.toList_data,List.isEmpty_eq_false_iff];intro e;have h1:=qX6 T;rw [e,List.length_nil] at h1;omega
        rotate_left 2
        all_goals
         go_wp2_with fail;refine C1.out.mono ?_;rintro e w2 ⟨rfl,q,hq⟩;have HV2:=qh (show P2 w w2 most st (.slice A l.length c) by rw [hq];exact HV.out.drewN q);clear hq C1;obtain⟨r0,r1,r2⟩:=zq5 HV2.out.z;have f0:=HV2.out.z.frozen 0;have f1:=HV2.out.z.frozen 1;have f2:=HV2.out.z.frozen 2;obtain⟨wz,hwz⟩:∃ wz,wz=ql7 w2 w.heap.size 0 0 (.slice none 0 0):=⟨_,rfl⟩;obtain⟨hzz,hzb⟩:=yj6 HV2.out.z HV2.out.be 0 0 (.slice none 0 0);rw [<-hwz] at hzz hzb;unfold ql7 at hwz;have HZ:=qh hzz;have HZB:=qh hzb;have HWZ:=qh hwz;clear hzz hzb hwz;go_wp2_with fail;rw [<-HWZ.out];obtain⟨z0,z1,z2⟩:=zq5 HZ.out
        . refine bodyPost_ret (v:= .tuple #[.agg #[.int .i64 0,.int .i64 0,.slice none 0 0],.int .i64 EL,.int .i64 EE]) (by rw [HF.out.1,HF.out.2];simp [results,Tryz.results5,go_sem,z0,z1,z2]) rfl (RsR.bad HF.out.2 (by decide) HZB.out)
        . refine bodyPost_ret (v:= .tuple #[.agg #[.int .i64 0,.int .i64 0,.slice none 0 0],.int .i64 EL,.int .i64 EE]) (by rw [HF.out.1,HF.out.2];simp [results,Tryz.results5,go_sem,z0,z1,z2]) rfl (RsR.bad HF.out.2 (by decide) HZB.out)
        . refine bodyPost_ret (v:= .tuple #[.agg #[.int .i64 0,.int .i64 0,.slice none 0 0],.int .i64 EL,.int .i64 EE]) (by rw [HF.out.1,HF.out.2];simp [results,Tryz.results5,go_sem,z0,z1,z2]) rfl (RsR.bad HF.out.2 (by decide) HZB.out)
       |true=>
        have hps:=ZV4 hc;have hab:=Qn7 hc
        obtain⟨y,r,hy⟩:∃ y r,pcs b nlB=y::r:=by
         have:=Qw2 b nlB (by decide);cases h:pcs b nlB with
         |nil=>rw [h] at this;cases this
         |cons y r=>exact⟨y,r,rfl⟩
        have hal:a.size<=s.size:=(by omega);have C2:=qh λ w' hb=>CS.out a w' hal hb
        clear CS CC;have hwm:∀ x∈qx4 a,x.size<=1048576:=λ x hx=>Nat.le_trans (zN9 ⟨#[32]⟩ (by decide) _ _ (Nat.le_refl _) x hx) (by omega)
        have hwl:(qx4 a).length<=1048577:=Nat.le_trans (jy8 (by decide)) (by omega);have HWM:=qh (And.intro hwm hwl)
        have HWA:Hid (∀ j,(wAt (qx4 a) j).size<=1048576):=qh λ j=>by
         unfold wAt List.getD;cases h:(qx4 a)[j]? with
         |none=>exact Nat.zero_le _
         |some x=>exact hwm x (List.mem_of_getElem? h)
        clear hwm hwl;by_cases k0:k=0
        . subst k0;have hX0:X= []:=List.eq_nil_of_length_eq_zero HP.out.len;subst hX0;obtain⟨n1,hn1⟩:∃ n,n=rnN (wAt (qx4 a) 1):=⟨_,rfl⟩;obtain⟨n2,hn2⟩:∃ n,n=rnN (wAt (qx4 a) 2):=⟨_,rfl⟩;have CN1:=qh λ w'=>(zh5 (wAt (qx4 a) 1) w' (by have:=HWA.out 1;unfold maxLen;omega)).mono λ _ _ h=>And.intro h.1 h.2.symm
          have CN2:=qh λ w'=>(zh5 (wAt (qx4 a) 2) w' (by have:=HWA.out 2;unfold maxLen;omega)).mono λ _ _ h=>And.intro h.1 h.2.symm
          rw [<-hn1] at CN1;rw [<-hn2] at CN2;obtain⟨hd,hhd⟩:∃ hd,hd=hdOk (qx4 a):=⟨_,rfl⟩;have HHD:Hid (hd=(decide ((qx4 a).length=3)&&(decide (wAt (qx4 a) 0=zy7)&&(decide (0<=n1)&&decide (0<=n2))))):=qh (by rw [hn1,hn2];exact hhd)
          have HHF:Hid (hd=false->EL=((0:Nat):Int)+1/\EE=3):=qh λ hf=>by
           have h:=HE2.out;rw [HP.out.er,hps,hy] at h;have e:lnE 0 a=3:=(if_pos rfl).trans (if_neg (by rw [<-hhd,hf];decide));rw [Q13 (by rw [e];decide),e,if_pos (show ¬(3:Int)=0 by decide)] at h;cases h;exact⟨rfl,rfl⟩
          have HHT:Hid (hd=true->Pst s b 1 [a]):=qh λ hf=>by
           have e:lnE 0 a=0:=(if_pos rfl).trans (if_pos (by rw [<-hhd,hf]));exact⟨rfl,by rw [HP.out.ps,hps];rfl,by have:=HP.out.le;omega,by rw [HP.out.er,hps,hy];exact Zg2 e⟩
          have HNN:Hid ((0+1:Nat)≠0->n1=rnN (wAt (qx4 ([a].getD 0 ByteArray.empty)) 1)/\n2=rnN (wAt (qx4 ([a].getD 0 ByteArray.empty)) 2)):=qh λ _=>⟨hn1,hn2⟩
          have hble:b.size<=s.size/\1<=s.size:=(by omega);clear hhd hn1 hn2 HE2 HP HH hps hy hgo;go_wp2_with fail;refine C1.out.mono ?_;rintro e w2 ⟨rfl,q,hq⟩;have HV2:=qh (show P2 w w2 most st (.slice A l.length c) by rw [hq];exact HV.out.drewN q);have HL2:=qh (show Rls w w2 A c (List.drop 1 []) l by rw [hq];exact HL.out.kept (below_drewN (Below.refl _ _) q));clear hq C1 HV HL;go_wp2_with fail;refine(C2.out w2 HV2.out.be).mono ?_;rintro e w3 ⟨rfl,ho3,b3⟩;have HV3:=qh (HV2.out.kept b3);have HL3:=qh (HL2.out.kept b3);have HO3:=qh ho3;have hz2:w.heap.size+1<w2.heap.size:=HV2.out.lt;clear ho3 b3 HV2 HL2 C2
          have HY:Hid (∀ w',OS w' w2.heap.size (.slice (some ⟨w2.heap.size,0,none⟩) (qx4 a).length (qx4 a).length) (qx4 a)->(qx4 a).length=3->w'.cell? ⟨w2.heap.size,0,none⟩=some (.string (wAt (qx4 a) 0))/\w'.cell? ⟨w2.heap.size,1,none⟩=some (.string (wAt (qx4 a) 1))/\w'.cell? ⟨w2.heap.size,2,none⟩=some (.string (wAt (qx4 a) 2))):=qh λ w' ho h3=>by
           obtain⟨g,e,_,_,hc,hcell⟩:=OS.at_ ho (by omega);cases e
           have Y:∀ k,k<(qx4 a).length->w'.cell? ⟨w2.heap.size,k,none⟩=some (.string (wAt (qx4 a) k)):=λ k hk=>by
            rw [hcell k hk];unfold wAt List.getD;rw [List.getElem?_eq_getElem hk];rfl
           exact⟨Y 0 (by omega),Y 1 (by omega),Y 2 (by omega)⟩
          obtain⟨N,hN⟩:∃ N,N=(pcs a ⟨#[32]⟩).length:=⟨_,rfl⟩;rw [<-hN];have HN3:Hid (N=(qx4 a).length):=qh hN;clear hN;go_upto_region 12 with fail;go_cut [62] from 40 to 62 (λ u wx=>u= .bool (!hd)/\w3=wx)
          case first=>
           clear HHF HHT HNN HV3 HL3;by_cases h3:N=3
           . subst h3;obtain⟨Y0,Y1,Y2⟩:=HY.out w3 HO3.out HN3.out.symm;by_cases hsc:wAt (qx4 a) 0=zy7
             . have qs:((wAt (qx4 a) 0).toList== [115,99,111,114,101])=true:=(by rw [Z49 (t:=zy7) (L:= [115,99,111,114,101]) rfl,hsc];exact decide_eq_true rfl);by_cases p1:n1<0
               . have hb:hd=false:=(by rw [HHD.out,decide_eq_false (show ¬0<=n1 by omega)];simp);subst hb;clear HHD hsc;go_wp2_with fail;refine(CN1.out _).mono ?_;rintro e w' ⟨rfl,rfl⟩;go_wp2_with fail;go_meet;exact⟨rfl,rfl⟩
               . by_cases p2:n2<0
                 focus
                  have hb:hd=false:=by rw [HHD.out,decide_eq_false (show ¬0<=n2 by omega)];simp
                 rotate_left
                 focus
                  have hb:hd=true:=by rw [HHD.out,decide_eq_true HN3.out.symm,decide_eq_true hsc,decide_eq_true (show 0<=n1 by omega),decide_eq_true (show 0<=n2 by omega)];rfl
                 rotate_left
                 all_goals
                  subst hb;clear HHD hsc;go_wp2_with fail;refine(CN1.out _).mono ?_;rintro e w' ⟨rfl,rfl⟩;go_wp2_with fail;refine(CN2.out _).mono ?_;rintro e w' ⟨rfl,rfl⟩;go_wp2_with fail;go_meet
                 . exact⟨rfl,rfl⟩
                 . exact⟨by rw [decide_eq_false (show ¬n1<0 by omega),decide_eq_false (show ¬n2<0 by omega)];rfl,rfl⟩
             . have qs:((wAt (qx4 a) 0).toList== [115,99,111,114,101])=false:=(by rw [Z49 (t:=zy7) (L:= [115,99,111,114,101]) rfl];exact decide_eq_false hsc);have hb:hd=false:=(by rw [HHD.out,decide_eq_false hsc];simp);subst hb;clear HHD hsc;go_wp2_with fail;go_meet;exact⟨rfl,rfl⟩
           . have q3:((N:Int)==3)=false:=(by rw [beq_eq_false_iff_ne];intro e;exact h3 (Int.ofNat.inj e));have q4:¬(N:Int)=3:=λ e=>h3 (Int.ofNat.inj e)
             have hb:hd=false:=(by rw [HHD.out,<-HN3.out,decide_eq_false h3];rfl);subst hb;clear HHD;go_wp2_with fail;go_meet;exact⟨rfl,rfl⟩
          case rest=>
           obtain⟨rfl,rfl⟩:=hcut;cases hd with
           |false=>
            have HF:Hid (EL=((0:Nat):Int)+1/\EE=3):=qh (HHF.out rfl);clear HHF HHT HNN HHD HY HO3 HL3 CN1 CN2;obtain⟨r0,r1,r2⟩:=zq5 HV3.out.z;have f0:=HV3.out.z.frozen 0;have f1:=HV3.out.z.frozen 1;have f2:=HV3.out.z.frozen 2;obtain⟨wz,hwz⟩:∃ wz,wz=ql7 w3 w.heap.size 0 0 (.slice none 0 0):=⟨_,rfl⟩;obtain⟨hzz,hzb⟩:=yj6 HV3.out.z HV3.out.be 0 0 (.slice none 0 0);rw [<-hwz] at hzz hzb;unfold ql7 at hwz;have HZ:=qh hzz;have HZB:=qh hzb;have HWZ:=qh hwz;clear hzz hzb hwz;go_wp2_with fail;rw [<-HWZ.out];obtain⟨z0,z1,z2⟩:=zq5 HZ.out;refine bodyPost_ret (v:= .tuple #[.agg #[.int .i64 0,.int .i64 0,.slice none 0 0],.int .i64 EL,.int .i64 EE]) (by rw [HF.out.1,HF.out.2];simp [results,Tryz.results5,go_sem,z0,z1,z2]) rfl (RsR.bad HF.out.2 (by decide) HZB.out)
           |true=>
            have h3:(qx4 a).length=3:=by
             have h:=HHD.out;cases h3:decide ((qx4 a).length=3) with
             |true=>exact of_decide_eq_true h3
             |false=>rw [h3] at h;cases h
            have HP2:Hid (Pst s b (0+1) [a]):=qh (HHT.out rfl);clear HHF HHT HHD;obtain⟨V1,hV1⟩:∃ V1,w3.drew=V1:=⟨_,rfl⟩;have HU1:Hid (P2 w V1 most st (.slice A l.length c)):=qh (by rw [<-hV1];exact HV3.out.drewN 1);have HX1:Hid (Rls w V1 A c (List.drop 1 []) l):=qh (by rw [<-hV1];exact HL3.out.kept (below_drewN (Below.refl _ _) 1));have hd1:OS V1 w2.heap.size (.slice (some ⟨w2.heap.size,0,none⟩) (qx4 a).length (qx4 a).length) (qx4 a):=(by rw [<-hV1];exact HO3.out);have hd0:=hd1;rw [<-hV1] at hd0;obtain⟨Va,hVa⟩:∃ Va,V1.setCell ⟨w.heap.size+1,0,none⟩ (.int .i64 n1)=Va:=⟨_,rfl⟩;have HUa:Hid (P2 w Va n1 st (.slice A l.length c)):=qh (by rw [<-hVa];exact HU1.out.set0 _);have HXa:Hid (Rls w Va A c (List.drop 1 []) l):=qh (by rw [<-hVa];exact HX1.out.set (Nat.lt_succ_self _) _);have hda:OS Va w2.heap.size (.slice (some ⟨w2.heap.size,0,none⟩) (qx4 a).length (qx4 a).length) (qx4 a):=(by rw [<-hVa];exact K14 hd1 hz2 _);obtain⟨Vb,hVb⟩:∃ Vb,Va.setCell ⟨w.heap.size+1,1,none⟩ (.int .i64 n2)=Vb:=⟨_,rfl⟩;have HUb:Hid (P2 w Vb n1 n2 (.slice A l.length c)):=qh (by rw [<-hVb];exact HUa.out.set1 _);have HXb:Hid (Rls w Vb A c (List.drop 1 [a]) l):=qh (by rw [<-hVb];exact HXa.out.set (Nat.lt_succ_self _) _);have hdb:OS Vb w2.heap.size (.slice (some ⟨w2.heap.size,0,none⟩) (qx4 a).length (qx4 a).length) (qx4 a):=(by rw [<-hVb];exact K14 hda hz2 _);have HS:Hid (∀ w',OS w' w2.heap.size (.slice (some ⟨w2.heap.size,0,none⟩) (qx4 a).length (qx4 a).length) (qx4 a)->w'.cell? ⟨w2.heap.size,1,none⟩=some (.string (wAt (qx4 a) 1))/\w'.cell? ⟨w2.heap.size,2,none⟩=some (.string (wAt (qx4 a) 2))):=qh λ w' h=>(HY.out w' h h3).2
            clear HV3 HL3 HO3 HY HX1 HXa;have hN3:N=3:=HN3.out.trans h3;subst hN3;clear HN3 h3;go_upto_region 14 with fail;go_cut [] from 65 to 75 (λ wx=>Hid (P2 w wx n1 n2 (.slice A l.length c))/\Hid (Rls w wx A c (List.drop 1 [a]) l))
            case first=>
             obtain⟨c0,c1,_⟩:=zq5 HU1.out.b;obtain⟨_,d1,_⟩:=zq5 HUa.out.b;have e0:=HU1.out.b.frozen 0;have e1:=HUa.out.b.frozen 1;clear HP2 HNN
             go_region_held3 (λ w'=>w'.cell? ⟨w2.heap.size,1,none⟩=some (.string (wAt (qx4 a) 1))/\w'.cell? ⟨w2.heap.size,2,none⟩=some (.string (wAt (qx4 a) 2))) (exact HS.out _ (by assumption))
              (first
               |(go_at_call 14;(with_reducible refine(CN1.out _).mono ?_);rintro e w' ⟨rfl,rfl⟩)
               |(go_at_call 14;(with_reducible refine(CN2.out _).mono ?_);rintro e w' ⟨rfl,rfl⟩)
               |fail)
             all_goals
              go_wp2_with fail;go_meet;exact⟨HUb,HXb⟩
            case rest=>
             obtain⟨HVR,HLR⟩:=hcut;clear HU1 HUa HUb HXb hd0 hd1 hda hdb HS CN1 CN2 hV1 hVa hVb;go_wp2_with fail;go_roundw
             case rel=>exact⟨0+1,b,A,c,n1,n2,[a],l,rfl,by go_num,HP2,HVR,HLR,HNN,by omega,by omega⟩
             case measure=>(simp [intOf];try omega)
        . have q1:((k:Int)+1==1)=false:=(by rw [beq_eq_false_iff_ne];omega);have q3:¬(k:Int)+1=1:=(by omega);have q2:T.toList.isEmpty=false:=(by rw [Lib.toList_data,List.isEmpty_eq_false_iff];intro e;have h1:=qX6 T;rw [e,List.length_nil] at h1;omega);go_wp2_with fail;refine C1.out.mono ?_;rintro e w2 ⟨rfl,q,hq⟩;have HV2:=qh (show P2 w w2 most st (.slice A l.length c) by rw [hq];exact HV.out.drewN q);have HL2:=qh (show Rls w w2 A c (X.drop 1) l by rw [hq];exact HL.out.kept (below_drewN (Below.refl _ _) q));clear hq C1 HV HL;go_wp2_with fail;refine(C2.out w2 HV2.out.be).mono ?_;rintro e w3 ⟨rfl,ho3,b3⟩;have HV3:=qh (HV2.out.kept b3);have HL3:=qh (HL2.out.kept b3);have HR:=qh (Qg9 (qx4 a) w2.heap.size (qx4 a).length w2.heap.size m w3 ho3 (World.ownsRow.lt ho3 _ rfl).2 HWM.out.1 HWM.out.2 (HM.out w3 HV3.out.be));unfold KB2 at HR;clear ho3 b3 HV2 HL2 C2;go_wp2_with fail;refine HR.out.mono ?_;rintro e w4 ⟨ru,rfl,hr,b4⟩;have HV4:=qh (HV3.out.kept b4);have HL4:=qh (HL3.out.kept b4);have HRU:=qh hr;have hz4:=b4.size;have hz3:=HV3.out.be.size;have HG3:=qh λ g hg=>Nat.lt_of_lt_of_le (HL3.out.lt g hg).2 (Nat.le_add_right _ 2)
          clear hr b4 HR HV3 HL3;by_cases he:rdE (qx4 a)=0
          . have hpn:pcs s nlB=(X++ [a])++pcs b nlB:=(by rw [HP.out.ps,hps,List.append_assoc];rfl);have HP2:Hid (Pst s b (k+1) (X++ [a])):=qh ⟨by rw [List.length_append,HP.out.len];rfl,hpn,by have:=HP.out.le;omega,by rw [HP.out.er,hps,hy];exact Zg2 (by show (if k=0 then _ else _)=_;rw [if_neg k0];exact he)⟩;have HRX:=qh (HRU.out he);clear HRU hpn;go_upto_region 16 with fail;obtain⟨W5,hW5⟩:∃ W5,w4.alloc (.cells #[.int .i64 ru.id,.int .i64 ru.ph,.slice ru.VA ru.vs.length ru.vc,.slice ru.ZA ru.zs.length ru.zc,.bool ru.no,.int .i64 ru.op,.string ru.arg,.slice ru.XA ru.xs.length ru.xc,.bool ru.ch] 44)=W5:=⟨_,rfl⟩;have hb5:Below w4.heap.size w4 W5:=(by rw [<-hW5];exact(Below.refl _ _).alloc (Nat.le_refl _) _);have hk5:Blk W5 w4.heap.size 44 (Zn7 ru).toArray:=(by rw [<-hW5];exact Blk.new _ _ _);have HV5:=qh (HV4.out.kept hb5);have HL5:=qh (HL4.out.kept hb5);have HRO:=qh (HRX.out.2.kept hb5);obtain⟨t0,t1,t2,t3,t4,t5,t6,t7,t8⟩:=z19 hk5;obtain⟨_,_,y2⟩:=zq5 HV5.out.b;rw [hW5];clear hW5 hb5 hk5 HV4 HL4;have hz5:=HV5.out.lt;go_upto_region 18 with fail;go_wp2_with (first|(at_builtin;refine yh4 rfl (.tmp 86) (.tmp 88) rfl HL5.out.own rfl ru rfl (by omega) (by omega) ?_;intro A5 c5 w6 h6 g6;have HV6:=qh (HV5.out.grew g6 λ g hg=>(HL5.out.lt g hg).1);have u2:=(zq5 HV6.out.b).2.2;have fu:=HV6.out.b.frozen 2;obtain⟨W7,hW7⟩:∃ W7,w6.setCell ⟨w.heap.size+1,2,none⟩ (.slice A5 (l.length+1) c5)=W7:=⟨_,rfl⟩)|fail);have HL6:Hid (Rls w w6 A5 c5 (X.drop 1++ [a]) (l++ [ru])):=qh (HL5.out.more HRX.out.1 (RuX.new HRO.out (by omega) HG3.out) (HRX.out.1.bnd HWA.out) h6 g6);have eX:(X++ [a]).drop 1=X.drop 1++ [a]:=List.drop_append_of_le_length (by rw [HP.out.len];omega)
            have eD:(X++ [a]).getD 0 ByteArray.empty=X.getD 0 ByteArray.empty:=by
             unfold List.getD;rw [List.getElem?_append_left (by rw [HP.out.len];omega)]
            have eL:(l++ [ru]).length=l.length+1:=(by simp);have HV7:Hid (P2 w W7 most st (.slice A5 (l++ [ru]).length c5)):=qh (by rw [<-hW7,eL];exact HV6.out.set2 _);have HL7:Hid (Rls w W7 A5 c5 ((X++ [a]).drop 1) (l++ [ru])):=qh (by rw [<-hW7,eX];exact HL6.out.set (Nat.lt_succ_self _) _);go_roundw
            case rel=>exact⟨k+1,b,A5,c5,most,st,X++ [a],l++ [ru],rfl,by go_num,HP2,HV7,HL7,qh λ _=>by rw [eD];exact HH.out k0,by rw [eL];omega,by have:=HP.out.le;omega⟩
            case measure=>simp [intOf];omega
          . have HF:Hid (EL=(k:Int)+1/\EE=rdE (qx4 a)):=qh (by
             have h:=HE2.out;rw [HP.out.er,hps,hy] at h;have e:lnE k a=rdE (qx4 a):=if_neg k0;rw [Q13 (by rw [e];exact he),e,if_pos he] at h;cases h;exact⟨rfl,rfl⟩)
            have q4:(rdE (qx4 a)==0)=false:=(by rw [beq_eq_false_iff_ne];exact he);obtain⟨EX,hEX⟩:∃ EX,EX=rdE (qx4 a):=⟨_,rfl⟩;rw [<-hEX] at HF q4 he⊢;clear hEX HE2;go_upto_region 16 with fail;obtain⟨W5,hW5⟩:∃ W5,w4.alloc (.cells #[.int .i64 ru.id,.int .i64 ru.ph,.slice ru.VA ru.vs.length ru.vc,.slice ru.ZA ru.zs.length ru.zc,.bool ru.no,.int .i64 ru.op,.string ru.arg,.slice ru.XA ru.xs.length ru.xc,.bool ru.ch] 44)=W5:=⟨_,rfl⟩;have HV5:Hid (P2 w W5 most st (.slice A l.length c)):=qh (by rw [<-hW5];exact HV4.out.kept ((Below.refl _ _).alloc (Nat.le_refl _) _));rw [hW5];clear hW5 HV4 HL4 HRU;obtain⟨r0,r1,r2⟩:=zq5 HV5.out.z;have f0:=HV5.out.z.frozen 0;have f1:=HV5.out.z.frozen 1;have f2:=HV5.out.z.frozen 2;obtain⟨wz,hwz⟩:∃ wz,wz=ql7 W5 w.heap.size 0 0 (.slice none 0 0):=⟨_,rfl⟩;obtain⟨hzz,hzb⟩:=yj6 HV5.out.z HV5.out.be 0 0 (.slice none 0 0);rw [<-hwz] at hzz hzb;unfold ql7 at hwz;have HZ:=qh hzz;have HZB:=qh hzb;have HWZ:=qh hwz;clear hzz hzb hwz;go_wp2_with fail;rw [<-HWZ.out];obtain⟨z0,z1,z2⟩:=zq5 HZ.out;refine bodyPost_ret (v:= .tuple #[.agg #[.int .i64 0,.int .i64 0,.slice none 0 0],.int .i64 EL,.int .i64 EE]) (by rw [HF.out.1,HF.out.2];simp [results,Tryz.results5,go_sem,z0,z1,z2]) rfl (RsR.bad HF.out.2 he HZB.out)
    . have k0:k≠0:=λ h=>hgo (.inl h)
      have hT:T.size=0:=Nat.eq_zero_of_not_pos λ h=>hgo (.inr h)
      have q1:((k:Int)+1==1)=false:=(by rw [beq_eq_false_iff_ne];omega);have q3:¬(k:Int)+1=1:=(by omega);have q2:T.toList.isEmpty=true:=by rw [Lib.toList_data,List.isEmpty_iff];exact List.length_eq_zero_iff.1 (by rw [qX6];exact hT)
      have hpt:pcs T nlB= [T]:=by
       cases hc:y27 T nlB with
       |mk a bo=>
        obtain⟨b,o⟩:=bo;cases o with
        |true=>have:=Qn7 hc;omega
        |false=>exact qm3 hc
      have hps:pcs s nlB=X++ [T]:=by rw [HP.out.ps,hpt]
      have hX:(X++ [T]).getD 0 ByteArray.empty=X.getD 0 ByteArray.empty:=by
       unfold List.getD;rw [List.getElem?_append_left (by rw [HP.out.len];omega)]
      obtain⟨h1,h2⟩:=HH.out k0
      have HRL:Hid (EE=0->most=rnN (wAt (qx4 ((pcs s nlB).getD 0 ByteArray.empty)) 1)/\st=rnN (wAt (qx4 ((pcs s nlB).getD 0 ByteArray.empty)) 2)/\IsRl ((pcs s nlB).dropLast.drop 1) l):=qh λ _=>by
       rw [hps,hX,List.dropLast_concat];exact⟨h1,h2,HL.out.is⟩
      clear h1 h2
      have hEE:Hid (EL=0/\EE=QR3 YX5 most st l):=qh (by
       have h:=HE2.out;have e:lsE k [T]=(0,0):=if_neg (by omega);rw [HP.out.er,hpt,e,if_neg (by decide),hps,hX,<-(HH.out k0).1,<-(HH.out k0).2,List.dropLast_concat,<-HL.out.is,Yw2] at h;cases h;exact⟨rfl,rfl⟩)
      have CK:=qh (kC7 YX5 most st l A c wr.heap.size wr HL.out.row (XU1 (HM.out wr HV.out.be)));obtain⟨RK,hRK⟩:∃ RK,RK=QR3 YX5 most st l:=⟨_,rfl⟩;rw [<-hRK] at CK hEE;clear hRK HE2 CC CS hX hps hpt;obtain⟨y0,y1,y2⟩:=zq5 HV.out.b;go_upto_region 20 with fail;go_wp2_with fail;refine CK.out.mono ?_;rintro e w2 ⟨rfl,b2⟩;have HV2:=qh (HV.out.kept b2);have HL2:=qh (HL.out.kept b2);clear y0 y1 y2 b2 HV HL CK;by_cases hr:RK=0
      . have q4:(RK==0)=true:=(by rw [hr];rfl);have HF:Hid (EL=0/\EE=0):=qh ⟨hEE.out.1,hEE.out.2.trans hr⟩;obtain⟨r0,r1,r2⟩:=zq5 HV2.out.z;obtain⟨y0,y1,y2⟩:=zq5 HV2.out.b;have f0:=HV2.out.z.frozen 0;have f1:=HV2.out.z.frozen 1;have f2:=HV2.out.z.frozen 2;obtain⟨wz,hwz⟩:∃ wz,wz=ql7 w2 w.heap.size most st (.slice A l.length c):=⟨_,rfl⟩;obtain⟨hzz,hzb⟩:=yj6 HV2.out.z HV2.out.be most st (.slice A l.length c);have hrow:Rls w wz A c (X.drop 1) l:=(by rw [hwz];exact((HL2.out.set (by simp) _).set (by simp) _).set (by simp) _);rw [<-hwz] at hzz hzb;unfold ql7 at hwz;have HZ:=qh hzz;have HZB:=qh hzb;have HWZ:=qh hwz;have HRO:=qh hrow;clear hzz hzb hwz hrow;go_wp2_with fail;rw [<-HWZ.out];obtain⟨z0,z1,z2⟩:=zq5 HZ.out;refine bodyPost_ret (v:= .tuple #[.agg #[.int .i64 most,.int .i64 st,.slice A l.length c],.int .i64 EL,.int .i64 EE]) (by rw [HF.out.1,HF.out.2];simp [results,Tryz.results5,go_sem,z0,z1,z2]) rfl ⟨most,st,A,c,l,rfl,HRL.out,λ h=>absurd HF.out.2 h,HRO.out.row,HZB.out⟩
      . have q4:(RK==0)=false:=(by rw [beq_eq_false_iff_ne];exact hr);have HF:Hid (EL=0/\EE=RK):=hEE;obtain⟨r0,r1,r2⟩:=zq5 HV2.out.z;have f0:=HV2.out.z.frozen 0;have f1:=HV2.out.z.frozen 1;have f2:=HV2.out.z.frozen 2;obtain⟨wz,hwz⟩:∃ wz,wz=ql7 w2 w.heap.size 0 0 (.slice none 0 0):=⟨_,rfl⟩;obtain⟨hzz,hzb⟩:=yj6 HV2.out.z HV2.out.be 0 0 (.slice none 0 0);rw [<-hwz] at hzz hzb;unfold ql7 at hwz;have HZ:=qh hzz;have HZB:=qh hzb;have HWZ:=qh hwz;clear hzz hzb hwz;go_wp2_with fail;rw [<-HWZ.out];obtain⟨z0,z1,z2⟩:=zq5 HZ.out;refine bodyPost_ret (v:= .tuple #[.agg #[.int .i64 0,.int .i64 0,.slice none 0 0],.int .i64 EL,.int .i64 EE]) (by rw [HF.out.1,HF.out.2];simp [results,Tryz.results5,go_sem,z0,z1,z2]) rfl (RsR.bad HF.out.2 hr HZB.out)
end
end Go.Proofs.YtngepacmgabmaaaGreatDoor
