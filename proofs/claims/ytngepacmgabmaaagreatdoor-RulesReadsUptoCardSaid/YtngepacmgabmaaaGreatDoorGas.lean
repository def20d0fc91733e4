/- Walk: wickref.readRule. -/
import Derived.Test.YtngepacmgabmaaaGreatDoorGar
namespace Go.Proofs.YtngepacmgabmaaaGreatDoor
open Go.RowKit
set_option linter.unusedVariables false
set_option linter.unusedSimpArgs false
theorem rlV_2 (s:ByteArray):(rlV s).2=(pcs s ⟨#[44]⟩).all rvB:=by
 unfold rlV;cases h:(pcs s ⟨#[44]⟩).all rvB<;>rfl
theorem rlA_2 (s:ByteArray):(rlA s).2=(pcs s ⟨#[44]⟩).all raB:=by
 unfold rlA;cases h:(pcs s ⟨#[44]⟩).all raB<;>rfl
theorem rlV_1 {s:ByteArray} (h:(pcs s ⟨#[44]⟩).all rvB=true):(rlV s).1=(pcs s ⟨#[44]⟩).map rvV:=by
 unfold rlV;rw [if_pos h]
theorem rlA_1 {s:ByteArray} (h:(pcs s ⟨#[44]⟩).all raB=true):(rlA s).1=(pcs s ⟨#[44]⟩).map raX:=by
 unfold rlA;rw [if_pos h]
theorem Jv3 {α:Type} (f:α->Bool) {L:List α} {k:Nat} (h:k<L.length):(L.take (k+1)).all f=((L.take k).all f&&f L[k]):=by
 rw [List.take_succ_eq_append_getElem h,List.all_append];simp
theorem YC1 {α β:Type} (f:α->β) {L:List α} {k:Nat} (h:k<L.length):(L.take (k+1)).map f=(L.take k).map f++ [f L[k]]:=by
 rw [List.take_succ_eq_append_getElem h,List.map_append];rfl
section
variable (ws:List ByteArray) (g0 cap B:Nat) (w:World)
set_option maxRecDepth 100000 in
set_option maxHeartbeats 16000000 in
theorem Jo5 (hO:OS w B (.slice (some ⟨g0,0,none⟩) ws.length cap) ws) (hg0:g0<w.heap.size) (hs:∀ x∈ws,x.size<=1048576) (hl:ws.length<=1048577) (hT:TW w):
 Calls Tryz.prog 19 #[.slice (some ⟨g0,0,none⟩) ws.length cap] w (KB2 ws w):=by
 have hst:=R3.start (R2.start w)
 have hY:∀ k,k<ws.length->w.cell? ⟨g0,k,none⟩=some (.string (wAt ws k)):=λ k hk=>by
  obtain⟨g,e,_,_,hc,hcell⟩:=hO.at_ (by omega);cases e;rw [hcell k hk];unfold wAt List.getD;rw [List.getElem?_eq_getElem hk];rfl
 have hSz:∀ k,(wAt ws k).size<=1048576:=λ k=>by
  by_cases hk:k<ws.length
  . unfold wAt List.getD;rw [List.getElem?_eq_getElem hk];exact hs _ (List.getElem_mem hk)
  . unfold wAt List.getD;rw [List.getElem?_eq_none (by omega)];exact Nat.zero_le _
 have HY:=qh λ w' (hb:Below w.heap.size w w') k (hk:k<ws.length)=>(hb.cell (p:=⟨g0,k,none⟩) hg0).trans (hY k hk)
 have HSz:=qh hSz;have HT:=qh λ w' (hb:Below w.heap.size w w')=>hT.below hb
 obtain⟨E,hE⟩:∃ E,E=rdE ws:=⟨_,rfl⟩;unfold KB2;rw [<-hE];have HE:=qh hE;clear hE hO hY hSz hT hs;by_cases hok:JG6 ws=true
 . have h8:ws.length=8:=by
    unfold JG6 at hok;rw [Bool.and_eq_true,decide_eq_true_eq] at hok;exact hok.1
   have hcc:∃ ch:Bool,ch=decide (wAt ws 0=Ym5)/\((wAt ws 0).toList== [114,117,108,101])= !ch/\((wAt ws 0).toList== [99,104,97,105,110])=ch:=by
    unfold JG6 at hok;rw [Bool.and_eq_true,Bool.or_eq_true,decide_eq_true_eq,decide_eq_true_eq,decide_eq_true_eq] at hok;rcases hok.2 with h|h
    . exact⟨false,by rw [h];decide,by rw [h,Z49 (t:=JH3) (L:= [114,117,108,101]) rfl];decide,by rw [h,Z49 (t:=Ym5) (L:= [99,104,97,105,110]) rfl];decide⟩
    . exact⟨true,by rw [h];decide,by rw [h,Z49 (t:=JH3) (L:= [114,117,108,101]) rfl];decide,by rw [h,Z49 (t:=Ym5) (L:= [99,104,97,105,110]) rfl];decide⟩
   obtain⟨ch,hch,q1,q2⟩:=hcc;obtain⟨id,hid⟩:∃ id,id=rnN (wAt ws 1):=⟨_,rfl⟩;obtain⟨ph,hph⟩:∃ id,id=rnN (wAt ws 2):=⟨_,rfl⟩;obtain⟨L1,hL1⟩:∃ id,id=pcs (wAt ws 3) ⟨#[44]⟩:=⟨_,rfl⟩;obtain⟨L2,hL2⟩:∃ id,id=pcs (wAt ws 7) ⟨#[44]⟩:=⟨_,rfl⟩;obtain⟨zl,hzl⟩:∃ id,id=rpL (wAt ws 4):=⟨_,rfl⟩;obtain⟨ze,hze⟩:∃ id,id=rpE (wAt ws 4):=⟨_,rfl⟩;obtain⟨no,hno⟩:∃ id,id=j11 (wAt ws 5) ⟨#[33]⟩:=⟨_,rfl⟩;obtain⟨x5,hx5⟩:∃ id,id=Ju6 (wAt ws 5) ⟨#[33]⟩:=⟨_,rfl⟩;obtain⟨op,hop⟩:∃ id,id=plW Zd4 x5:=⟨_,rfl⟩;obtain⟨ar,har⟩:∃ id,id=str (zn2 (wAt ws 6).data.toList):=⟨_,rfl⟩;obtain⟨ae,hae⟩:∃ id,id=KN6 (wAt ws 6).data.toList:=⟨_,rfl⟩;have hop2:op=plW Zd4 (YB0 (wAt ws 5)):=by rw [hop,hx5];rfl
   have HE2:Hid (E=if id<0\/ph<0\/L1.all rvB=false\/L2.all raB=false\/op=0\/¬ae=0 then 3 else ze):=qh (by
    rw [HE.out,hid,hph,hop2,hae,hze,hL1,hL2,<-rlV_2,<-rlA_2];unfold rdE;rw [if_neg (by rw [hok];decide)])
   have HI:Hid (E=0->∀ (VA ZA XA:Option Addr) (vc zc xc:Nat),IsRu ws ⟨id,ph,L1.map rvV,zl,no,op,ar,L2.map raX,ch,VA,vc,ZA,zc,XA,xc⟩):=qh λ h VA ZA XA vc zc xc=>by
    have hn:L1.all rvB=true/\L2.all raB=true:=by
     rw [HE2.out] at h;split at h
     . cases h
     . rename_i hn
       refine⟨?_,?_⟩
       . cases h1:L1.all rvB with
         |true=>rfl
         |false=>exact absurd (.inr (.inr (.inl h1))) hn
       . cases h1:L2.all raB with
         |true=>rfl
         |false=>exact absurd (.inr (.inr (.inr (.inl h1)))) hn
    exact⟨hid,hph,by rw [hL1] at hn⊢;exact(rlV_1 hn.1).symm,hzl,hno,hop2,har,by rw [hL2] at hn⊢;exact(rlA_1 hn.2).symm,hch⟩
   have CN1:=qh λ w'=>(z06 (wAt ws 1) w' (by have:=HSz.out 1;unfold maxLen;omega)).mono λ _ _ h=>And.intro h.1 h.2.symm
   have CN2:=qh λ w'=>(z06 (wAt ws 2) w' (by have:=HSz.out 2;unfold maxLen;omega)).mono λ _ _ h=>And.intro h.1 h.2.symm
   have CP1:=qh λ w'=>Z13 (wAt ws 3) ⟨#[44]⟩ w' (HSz.out 3) (by decide) (by decide)
   have CP2:=qh λ w'=>Z13 (wAt ws 7) ⟨#[44]⟩ w' (HSz.out 7) (by decide) (by decide)
   have CAT:=qh λ w'=>QS2 (wAt ws 5) ⟨#[33]⟩ w' (HSz.out 5) (by decide)
   have HX5:Hid ((no=true->x5=(wAt ws 5).extract 1 (wAt ws 5).size/\1<=(wAt ws 5).size)/\(no=false->x5=wAt ws 5)):=qh (by
    refine⟨λ h=> ?_,λ h=> ?_⟩
    . rw [hno] at h;exact⟨by rw [hx5];exact jH8 h rfl,Yv8 h⟩
    . rw [hx5];exact xa8 (by rw [<-hno];exact h))
   have CPL:=qh λ w' hb=>jS8 x5 w' (HT.out w' hb)
   have CUN:=qh λ w'=>Q85 (wAt ws 6) w' (by have:=HSz.out 6;omega)
   have CPP:=qh λ w' (hb:Below w.heap.size w w')=>kB9 (wAt ws 4) w' (HSz.out 4) (HT.out w' hb).p
   unfold PRes at CPP;have hL1p:0<L1.length:=(by rw [hL1];exact Qw2 _ _ (by decide));have hL2p:0<L2.length:=(by rw [hL2];exact Qw2 _ _ (by decide));have hL1n:L1.length<=1048577:=(by rw [hL1];have:=jy8 (s:=wAt ws 3) (t:=⟨#[44]⟩) (by decide);have:=HSz.out 3;omega);have hL2n:L2.length<=1048577:=(by rw [hL2];have:=jy8 (s:=wAt ws 7) (t:=⟨#[44]⟩) (by decide);have:=HSz.out 7;omega);have HL1s:Hid (∀ x∈L1,x.size<=1048576):=qh λ x hx=>Nat.le_trans (zN9 ⟨#[44]⟩ (by decide) _ _ (Nat.le_refl _) x (by rw [<-hL1];exact hx)) (HSz.out 3)
   have HL2s:Hid (∀ x∈L2,x.size<=1048576):=qh λ x hx=>Nat.le_trans (zN9 ⟨#[44]⟩ (by decide) _ _ (Nat.le_refl _) x (by rw [<-hL2];exact hx)) (HSz.out 7)
   rw [<-hid] at CN1;rw [<-hph] at CN2;rw [<-hL1] at CP1;rw [<-hL2] at CP2;rw [<-hno] at CAT;rw [<-hop] at CPL;rw [<-har,<-hae] at CUN;rw [<-hzl,<-hze] at CPP;have hop0:0<=op:=(by rw [hop];exact zS1 _ _);clear hid hph hL1 hL2 hzl hze hno hx5 hop hop2 har hae hch hok HE;rw [h8];go_enter Tryz.func19,Tryz.ntmps19;go_upto_region 2 with fail;obtain⟨W0,hW0⟩:∃ W0,((w.alloc (.cells (Zn7 zRu).toArray 44)).alloc (.cells (Zn7 zRu).toArray 44))=W0:=⟨_,rfl⟩;unfold zRu at hW0;dsimp only [Zn7,List.length_nil] at hW0;have hst0:R3 w W0 zRu:=(by rw [<-hW0];exact hst);rw [hW0];have HV0:=qh hst0;clear hW0 hst hst0;have Y0:W0.cell? ⟨g0,0,none⟩=some (.string (wAt ws 0)):=HY.out W0 HV0.out.1.be 0 (by omega);have fz0:=HV0.out.1.fz 8;obtain⟨c00,_,_,_,_,_,_,_,c08⟩:=z19 HV0.out.1.v;dsimp only [zRu] at c08;obtain⟨W1,hW1⟩:∃ W1,W0.setCell ⟨w.heap.size+1,8,none⟩ (.bool ch)=W1:=⟨_,rfl⟩;have HV1:Hid (R3 w W1 ⟨0,0,[],[],false,0,{data:=#[]},[],ch,none,0,none,0,none,0⟩):=qh (by rw [<-hW1];exact HV0.out.set 8 _ ⟨HV0.out.2.vs,HV0.out.2.zs,HV0.out.2.xs⟩ rfl);obtain⟨c2,hc2⟩:∃ c2,c2=ch:=⟨_,rfl⟩;rw [<-hc2] at HV1 HI;clear hc2;obtain⟨V1,hV1⟩:∃ V1,W1.drew=V1:=⟨_,rfl⟩;have HU1:Hid (R3 w V1 ⟨0,0,[],[],false,0,{data:=#[]},[],c2,none,0,none,0,none,0⟩):=qh (by rw [<-hV1];exact HV1.out.drew);obtain⟨Va,hVa⟩:∃ Va,V1.setCell ⟨w.heap.size+1,0,none⟩ (.int .i64 id)=Va:=⟨_,rfl⟩;have HVa:Hid (R3 w Va ⟨id,0,[],[],false,0,{data:=#[]},[],c2,none,0,none,0,none,0⟩):=qh (by rw [<-hVa];exact HU1.out.set 0 _ ⟨HU1.out.2.vs,HU1.out.2.zs,HU1.out.2.xs⟩ rfl);obtain⟨Vb,hVb⟩:∃ Vb,Va.setCell ⟨w.heap.size+1,1,none⟩ (.int .i64 ph)=Vb:=⟨_,rfl⟩;have HVb:Hid (R3 w Vb ⟨id,ph,[],[],false,0,{data:=#[]},[],c2,none,0,none,0,none,0⟩):=qh (by rw [<-hVb];exact HVa.out.set 1 _ ⟨HVa.out.2.vs,HVa.out.2.zs,HVa.out.2.xs⟩ rfl);go_cut [37] from 23 to 37 (λ u wx=>u= .bool false/\W0=wx)
   case first=>
    clear CPL CUN CPP CN1 CN2 CP1 CP2 CAT HI HE2;cases ch
    all_goals
     go_wp2_with fail;go_meet;exact⟨rfl,rfl⟩
   case rest=>
    obtain⟨rfl,rfl⟩:=hcut;go_upto_region 6 with fail;clear q1 q2 hW1 fz0 c00 c08 HV0 Y0;go_cut [] from 23 to 53 (λ wx=>Hid (R3 w wx ⟨id,ph,[],[],false,0,{data:=#[]},[],c2,none,0,none,0,none,0⟩))
    case first=>
     obtain⟨d0,d1,_,_,_,_,_,_,_⟩:=z19 HU1.out.1.v;obtain⟨_,d2,_,_,_,_,_,_,_⟩:=z19 HVa.out.1.v;dsimp only at d0 d1 d2;have e0:=HU1.out.1.fz 0;have e1:=HVa.out.1.fz 1;clear HI HE2 CPL CUN CPP CP1 CP2 CAT;have HS:Hid (∀ w',Below w.heap.size w w'->w'.cell? ⟨g0,1,none⟩=some (.string (wAt ws 1))/\w'.cell? ⟨g0,2,none⟩=some (.string (wAt ws 2))):=qh λ w' h=>⟨HY.out w' h 1 (by omega),HY.out w' h 2 (by omega)⟩
     have hb1:=HU1.out.1.be;have hb2:=HVa.out.1.be;have hb3:=HVb.out.1.be;have hb4:=hb1;rw [<-hV1] at hb4;clear HY
     go_region_held3 (λ w'=>w'.cell? ⟨g0,1,none⟩=some (.string (wAt ws 1))/\w'.cell? ⟨g0,2,none⟩=some (.string (wAt ws 2))) (exact HS.out _ (by assumption))
      (first
       |(go_at_call 18;(with_reducible refine(CN1.out _).mono ?_);rintro e w' ⟨rfl,rfl⟩)
       |(go_at_call 18;(with_reducible refine(CN2.out _).mono ?_);rintro e w' ⟨rfl,rfl⟩)
       |fail)
     all_goals
      go_wp2_with fail;go_meet;exact HVb
    case rest=>
     have HV2:=hcut;clear hcut HU1 HVa HVb hV1 hVa hVb CN1 CN2 HV1;have Y3:wc.cell? ⟨g0,3,none⟩=some (.string (wAt ws 3)):=HY.out wc HV2.out.1.be 3 (by omega);go_wp2_with fail;refine(CP1.out _).mono ?_;rintro e w3 ⟨v,rfl,ho,b3⟩;obtain⟨Ap,c,rfl⟩:=ho.form;obtain⟨g,rfl,hg,hgl,hnc,_⟩:=ho.at_ hL1p;have HP3:Hid (Lp w w3 ⟨id,ph,[],[],false,0,{data:=#[]},[],c2,none,0,none,0,none,0⟩ w3.heap.size g c L1 51 3 (.slice none 0 0) 0 [] (.slice none 0 0) 0 []):=qh ⟨HV2.out.1.kept b3,World.ownsRow_nil _ _ _ _,jJ8 ho HV2.out.own,World.ownsRow_nil _ _ _ _,hgl,(λ x hx=>by cases hx),by have:=b3.size;have:=HV2.out.own;omega,Nat.le_refl _⟩;clear ho b3 HV2 CP1 Y3;go_wp2_with fail;go_loopw [5,7] (λ v u wr=>∃ (k:Nat) (A:Option Addr) (c':Nat) (l:List Vr) (okb:Bool),v= .bool okb/\u= .int .i64 (k:Int)/\k<=L1.length/\Hid (l=(L1.take k).map rvV/\l.length=k/\okb=(L1.take k).all rvB)/\Hid (Lp w wr ⟨id,ph,l,[],false,0,{data:=#[]},[],c2,A,c',none,0,none,0⟩ w3.heap.size g c L1 51 3 (.slice A l.length c') l.length (l.flatMap zl0) (.slice none 0 0) 0 [])) (λ _ u _=>L1.length-(intOf u).toNat)
     case atStart=>exact⟨0,none,0,[],true,rfl,rfl,Nat.zero_le _,qh ⟨rfl,rfl,rfl⟩,HP3⟩
     case round=>
      obtain⟨k,A,c',l,okb,rfl,rfl,hk,HL,HP⟩:=hrel;clear HP3;have k0:(0:Int)<=(k:Int):=(by omega);by_cases hlk:k<L1.length
      . have k1:(k:Int)<(L1.length:Int):=(by omega);have kw:IntKind.i64.wrap ((k:Int)+1)=(k:Int)+1:=IntWalk.i64_in _ (by omega);obtain⟨x,hx⟩:∃ x,x=L1[k]:=⟨_,rfl⟩;have hxs:x.size<=1048576:=HL1s.out x (by rw [hx];exact List.getElem_mem hlk);have HNX:Hid (∀ y,y=rvV x->l++ [y]=(L1.take (k+1)).map rvV/\(l++ [y]).length=k+1):=qh λ y hy=>⟨by rw [YC1 rvV hlk,<-hx,HL.out.1,hy],by rw [List.length_append,HL.out.2.1];rfl⟩
        have HNB:Hid (∀ b,b=rvB x->(okb&&b)=(L1.take (k+1)).all rvB):=qh λ b hb=>by rw [Jv3 rvB hlk,<-hx,HL.out.2.2,hb]
        have hlen:l.length<=1048577:=(by rw [HL.out.2.1];omega);clear HL;obtain⟨b1,hb1⟩:∃ b1,b1=j11 x ⟨#[35]⟩:=⟨_,rfl⟩;obtain⟨b2,hb2⟩:∃ b2,b2=j11 x ⟨#[33]⟩:=⟨_,rfl⟩;obtain⟨M,hMe⟩:∃ M,M=rvM x:=⟨_,rfl⟩
        have HM:Hid ((b1=true->M=(1,x.extract 1 x.size)/\1<=x.size)/\(b1=false->b2=true->M=(2,x.extract 1 x.size)/\1<=x.size)/\(b1=false->b2=false->M=(0,x))):=qh (by
         unfold rvM at hMe;refine⟨λ h=> ?_,λ h h2=> ?_,λ h h2=> ?_⟩
         . rw [hb1] at h;rw [if_pos h] at hMe;exact⟨by rw [hMe,jH8 h rfl],Yv8 h⟩
         . rw [hb1] at h;rw [hb2] at h2;rw [if_neg (by rw [h];decide),if_pos h2] at hMe;exact⟨by rw [hMe,jH8 h2 rfl],Yv8 h2⟩
         . rw [hb1] at h;rw [hb2] at h2;rw [if_neg (by rw [h];decide),if_neg (by rw [h2];decide)] at hMe;exact hMe)
        have hMs:M.2.size<=1048576:=(by rw [hMe];exact Nat.le_trans (Km8 x) hxs);have CA1:=qh λ w'=>QS2 x ⟨#[35]⟩ w' hxs (by decide)
        have CA2:=qh λ w'=>QS2 x ⟨#[33]⟩ w' hxs (by decide)
        rw [<-hb1] at CA1;rw [<-hb2] at CA2;have hV:rvV x=⟨plW Jf7 (y27 M.2 ⟨#[58]⟩).1,M.1,(y27 M.2 ⟨#[58]⟩).2.1⟩:=(by rw [hMe];rfl);have hB:rvB x=(decide (0<plW Jf7 (y27 M.2 ⟨#[58]⟩).1)&&((y27 M.2 ⟨#[58]⟩).2.2== !(y27 M.2 ⟨#[58]⟩).2.1.toList.isEmpty)):=(by rw [hMe];rfl);obtain⟨md,t⟩:=M;dsimp only at hMs hV hB;have CSP:=qh λ w'=>xW6 t ⟨#[58]⟩ w' (by omega) (by decide)
        obtain⟨C,hC⟩:∃ C,C=y27 t ⟨#[58]⟩:=⟨_,rfl⟩;rw [<-hC] at CSP hV hB;obtain⟨a,b,two⟩:=C;dsimp only at CSP hV hB;have CPK:=qh λ w' hb=>JT5 a w' (HT.out w' hb)
        obtain⟨K,hK⟩:∃ K,K=plW Jf7 a:=⟨_,rfl⟩;rw [<-hK] at CPK hV hB;obtain⟨rb,hrb⟩:∃ rb,rb=rvB x:=⟨_,rfl⟩;have HNX2:=HNX.out _ hV.symm;have HNX3:=qh HNX2;have HNB2:=qh (HNB.out rb hrb);rw [<-hrb] at hB;have HB:=qh hB;have y0:wr.cell? ⟨g,k,none⟩=some (.string x):=(by rw [hx];exact HP.out.at_ hlk);clear HNX2 HNX HNB hb1 hb2 hMe hV hB hC hK hrb hx hMs;go_upto_region 12 with fail;obtain⟨W1,hW1⟩:∃ W1,wr.alloc (.cells #[.int .i64 0,.int .i64 0,.string {data:=#[]}] 51)=W1:=⟨_,rfl⟩;have HZ1:Hid (Lz w W1 ⟨id,ph,l,[],false,0,{data:=#[]},[],c2,A,c',none,0,none,0⟩ w3.heap.size g c L1 51 3 (.slice A l.length c') l.length (l.flatMap zl0) (.slice none 0 0) 0 [] wr.heap.size 51 #[.int .i64 0,.int .i64 0,.string {data:=#[]}]):=qh (by rw [<-hW1];exact HP.out.box _ _);have y1:W1.cell? ⟨g,k,none⟩=some (.string x):=(by rw [<-hW1];exact(((Below.refl _ _).alloc (Nat.le_refl _) _:Below wr.heap.size wr _).cell (p:=⟨g,k,none⟩) (Nat.lt_of_lt_of_le HP.out.hg HP.out.b1)).trans y0);obtain⟨gV,hgV⟩:∃ gV,wr.heap.size=gV:=⟨_,rfl⟩;rw [hW1];rw [hgV] at HZ1⊢;clear hW1 hgV y0 HP;go_wp2_with fail;refine(CA1.out _).mono ?_;rintro e w' ⟨rfl,rfl⟩;go_upto_if 70 with fail;go_cut [9] from 71 to 78 (λ u wx=>u= .string t/\Hid (Lz w wx ⟨id,ph,l,[],false,0,{data:=#[]},[],c2,A,c',none,0,none,0⟩ w3.heap.size g c L1 51 3 (.slice A l.length c') l.length (l.flatMap zl0) (.slice none 0 0) 0 [] gV 51 #[.int .i64 0,.int .i64 md,.string {data:=#[]}]))
        case first=>
         have f1:=HZ1.out.z.frozen 1;have c1:=HZ1.out.z.cell 1;obtain⟨V1,hV1⟩:∃ V1,W1.drew=V1:=⟨_,rfl⟩;have HY1:Hid (Lz w V1 ⟨id,ph,l,[],false,0,{data:=#[]},[],c2,A,c',none,0,none,0⟩ w3.heap.size g c L1 51 3 (.slice A l.length c') l.length (l.flatMap zl0) (.slice none 0 0) 0 [] gV 51 #[.int .i64 0,.int .i64 0,.string {data:=#[]}]):=qh (by rw [<-hV1];exact HZ1.out.drewN 1);have f2:=HY1.out.z.frozen 1;have d1:=Blk.e1 HY1.out.z;replace c1:W1.cell? ⟨gV,1,none⟩=some (.int .i64 0):=c1;have hx9:x.size<=9223372036854775807:=(by omega);clear CSP CPK HNX3 HNB2 HB CPL CUN CPP CP2 CAT HI HE2;cases b1 with
         |true=>
          obtain⟨h,h1⟩:=HM.out.1 rfl;have HTX:=qh (congrArg Prod.snd h);have hmd:md=1:=congrArg Prod.fst h;subst hmd;have i1:(1:Int)<=(x.size:Int):=(by omega);obtain⟨V2,hV2⟩:∃ V2,V1.setCell ⟨gV,1,none⟩ (.int .i64 1)=V2:=⟨_,rfl⟩;have HY2:=qh (HY1.out.set 1 (.int .i64 1));rw [hV2] at HY2;clear HM h HY1 HZ1;go_wp2_with fail;go_region
          all_goals go_wp2_with fail
          all_goals
           go_meet;exact⟨by rw [HTX.out],HY2⟩
         |false=>
          cases b2 with
          |true=>
           obtain⟨h,h1⟩:=HM.out.2.1 rfl rfl;have HTX:=qh (congrArg Prod.snd h);have hmd:md=2:=congrArg Prod.fst h;subst hmd;have i1:(1:Int)<=(x.size:Int):=(by omega);obtain⟨V2,hV2⟩:∃ V2,V1.setCell ⟨gV,1,none⟩ (.int .i64 2)=V2:=⟨_,rfl⟩;have HY2:=qh (HY1.out.set 1 (.int .i64 2));rw [hV2] at HY2;clear HM h HY1 HZ1;go_wp2_with fail;refine(CA2.out _).mono ?_;rintro e w' ⟨rfl,rfl⟩;go_wp2_with fail;go_region
           all_goals go_wp2_with fail
           all_goals
            go_meet;exact⟨by rw [HTX.out],HY2⟩
          |false=>
           have h:=HM.out.2.2 rfl rfl;have HTX:=qh (congrArg Prod.snd h);have hmd:md=0:=congrArg Prod.fst h;subst hmd;clear HM h HY1;go_wp2_with fail;refine(CA2.out _).mono ?_;rintro e w' ⟨rfl,rfl⟩;go_wp2_with fail;go_meet;exact⟨by rw [HTX.out],HZ1⟩
        case rest=>
         obtain⟨rfl,HZc⟩:=hcut;clear HZ1 HM CA1 CA2 y1;go_wp2_with fail;refine(CSP.out _).mono ?_;rintro e w4 ⟨rfl,q,hq⟩;have HZ4:=qh (HZc.out.drewN q);rw [<-hq] at HZ4;clear hq HZc CSP;have f0:=HZ4.out.z.frozen 0;have f2:=HZ4.out.z.frozen 2;have c0:=Blk.e0 HZ4.out.z;have d2:w4.cell? ⟨gV,2,none⟩=some (.string {data:=#[]}):=HZ4.out.z.cell 2;go_upto_region 18 with fail;obtain⟨W5,hW5⟩:∃ W5,(w4.setCell ⟨gV,0,none⟩ (.int .i64 K)).setCell ⟨gV,2,none⟩ (.string b)=W5:=⟨_,rfl⟩;have HZ5:Hid (Lz w W5 ⟨id,ph,l,[],false,0,{data:=#[]},[],c2,A,c',none,0,none,0⟩ w3.heap.size g c L1 51 3 (.slice A l.length c') l.length (l.flatMap zl0) (.slice none 0 0) 0 [] gV 51 #[.int .i64 K,.int .i64 md,.string b]):=qh (by rw [<-hW5];exact(HZ4.out.set 0 _).set 2 _);go_wp2_with fail;refine(CPK.out _ HZ4.out.p.r2.be).mono ?_;rintro e w' ⟨rfl,rfl⟩;go_upto_region 19 with fail;clear f0 f2 c0 d2 HZ4 hW5 CPK;have c0:=Blk.e0 HZ5.out.z;go_cut [5] from 91 to 102 (λ u wx=>u= .bool (okb&&rb)/\W5=wx)
         case first=>
          obtain⟨e,he⟩:∃ e,e=b.toList.isEmpty:=⟨_,rfl⟩;have he2:b.toList.isEmpty=e:=he.symm;have HB2:=HB.out;rw [<-he] at HB2;clear HB he HNX3 HNB2 HZ5 CPL CUN CPP CP2 CAT HI HE2;by_cases hk9:0<K
          . have k9:decide ((0:Int)<K)=true:=decide_eq_true hk9;rw [k9] at HB2;replace HB2:=qh HB2;clear hk9;cases okb<;>cases two<;>cases e
            all_goals
             go_wp2_with fail;go_meet;exact⟨by rw [HB2.out];rfl,rfl⟩
          . have k9:decide ((0:Int)<K)=false:=decide_eq_false hk9;rw [k9] at HB2;replace HB2:=qh HB2;clear hk9;cases okb
            all_goals
             go_wp2_with fail;go_meet;exact⟨by rw [HB2.out];rfl,rfl⟩
         case rest=>
          obtain⟨rfl,rfl⟩:=hcut;obtain⟨_,c1,d2⟩:=Blk.c3 HZ5.out.z;obtain⟨_,_,u2,_,_,_,_,_,_⟩:=z19 HZ5.out.p.r2.v;dsimp only at u2;have hz5:=HZ5.out.p.b1;go_wp2_with (first|(at_builtin;refine jr4 rfl (.tmp 104) (.tmp 106) rfl HZ5.out.p.own rfl ⟨K,md,b⟩ rfl (by omega) hz5 ?_;intro A5 c5 w6 h6 b6;have HR6:=qh (HZ5.out.mid b6);obtain⟨_,_,u6,_,_,_,_,_,_⟩:=z19 HR6.out.v;dsimp only at u6;have fu:=HR6.out.fz 2;obtain⟨W7,hW7⟩:∃ W7,w6.setCell ⟨w.heap.size+1,2,none⟩ (.slice A5 (l.length+1) c5)=W7:=⟨_,rfl⟩)|fail);have eL:(l++ [(⟨K,md,b⟩:Vr)]).length=l.length+1:=by simp
          have HP7:Hid (Lp w W7 ⟨id,ph,l++ [⟨K,md,b⟩],[],false,0,{data:=#[]},[],c2,A5,c5,none,0,none,0⟩ w3.heap.size g c L1 51 3 (.slice A5 (l++ [(⟨K,md,b⟩:Vr)]).length c5) (l++ [(⟨K,md,b⟩:Vr)]).length ((l++ [(⟨K,md,b⟩:Vr)]).flatMap zl0) (.slice none 0 0) 0 []):=qh (by
           rw [<-hW7,eL];refine HZ5.out.app h6 b6 2 ?_;rw [List.setIfInBounds_toArray];show (_:Array Value)=(Zn7 ⟨id,ph,l++ [⟨K,md,b⟩],[],false,0,{data:=#[]},[],c2,A5,c5,none,0,none,0⟩).toArray;unfold Zn7;dsimp only;rw [eL];rfl)
          go_roundw
          case rel=>exact⟨k+1,A5,c5,l++ [⟨K,md,b⟩],okb&&rb,rfl,by go_num,by omega,qh ⟨HNX3.out.1,HNX3.out.2,HNB2.out⟩,HP7⟩
          case measure=>simp [intOf];omega
      . obtain rfl:k=L1.length:=by omega
        have HL1e:Hid (l=L1.map rvV/\okb=L1.all rvB):=qh (by
         have h:=HL.out;rw [List.take_length] at h;exact⟨h.1,h.2.2⟩)
        have Y7:wr.cell? ⟨g0,7,none⟩=some (.string (wAt ws 7)):=HY.out wr HP.out.r2.be 7 (by omega);clear HL hlk k0 hk;go_wp2_with fail;refine(CP2.out _).mono ?_;rintro e w5 ⟨v,rfl,ho,b5⟩;obtain⟨Aq,cq,rfl⟩:=ho.form;obtain⟨gq,rfl,hgq,hgql,hncq,_⟩:=ho.at_ hL2p;have HQ5:Hid (Lp w w5 ⟨id,ph,l,[],false,0,{data:=#[]},[],c2,A,c',none,0,none,0⟩ w5.heap.size gq cq L2 55 2 (.slice none 0 0) 0 [] (.slice A l.length c') l.length (l.flatMap zl0)):=qh ⟨HP.out.r2.kept b5,World.ownsRow_nil _ _ _ _,jJ8 ho (Nat.le_trans HP.out.b0 HP.out.b1),jJ8 (ji4 HP.out.own b5) HP.out.b0,hgql,λ x hx=>(World.ownsRow.lt (ji4 HP.out.own b5) x hx).2,Nat.le_trans (Nat.le_trans HP.out.b0 HP.out.b1) b5.size,Nat.le_refl _⟩;clear ho b5 HP CP2 Y7;go_wp2_with fail;obtain⟨wm,rfl⟩:∃ wm:World,wm=wr:=⟨_,rfl⟩;go_loopw [5,13] (λ v u wr=>∃ (j:Nat) (X:Option Addr) (xc:Nat) (xl:List (Int×Int)) (ob:Bool),v= .bool ob/\u= .int .i64 (j:Int)/\j<=L2.length/\Hid (xl=(L2.take j).map raX/\xl.length=j/\ob=(okb&&(L2.take j).all raB))/\Hid (Lp w wr ⟨id,ph,l,[],false,0,{data:=#[]},xl,c2,A,c',none,0,X,xc⟩ w5.heap.size gq cq L2 55 2 (.slice X xl.length xc) xl.length (xl.flatMap jQ1) (.slice A l.length c') l.length (l.flatMap zl0))) (λ _ u _=>L2.length-(intOf u).toNat)
        case atStart=>exact⟨0,none,0,[],okb,rfl,rfl,Nat.zero_le _,qh ⟨rfl,rfl,by simp⟩,HQ5⟩
        case round=>
         obtain⟨j,X,xc,xl,ob,rfl,rfl,hj,HLx,HQ⟩:=hrel;clear HQ5;have j0:(0:Int)<=(j:Int):=(by omega);by_cases hlj:j<L2.length
         . have j1:(j:Int)<(L2.length:Int):=(by omega);have jw:IntKind.i64.wrap ((j:Int)+1)=(j:Int)+1:=IntWalk.i64_in _ (by omega);obtain⟨x,hx⟩:∃ x,x=L2[j]:=⟨_,rfl⟩;have hxs:x.size<=1048576:=HL2s.out x (by rw [hx];exact List.getElem_mem hlj);have hlen:xl.length<=1048577:=(by rw [HLx.out.2.1];omega);have hnx:xl++ [raX x]=(L2.take (j+1)).map raX/\(xl++ [raX x]).length=j+1:=⟨by rw [YC1 raX hlj,<-hx,HLx.out.1],by rw [List.length_append,HLx.out.2.1];rfl⟩;have hnb:(ob&&raB x)=(okb&&(L2.take (j+1)).all raB):=(by rw [Jv3 raB hlj,<-hx,HLx.out.2.2,Bool.and_assoc]);have CSP:=qh λ w'=>xW6 x ⟨#[58]⟩ w' (by omega) (by decide)
           have hsz:=(Jb0 x ⟨#[58]⟩).2;have hX:raX x=(plW XF4 (y27 x ⟨#[58]⟩).1,if (y27 x ⟨#[58]⟩).2.2=true then rnN (y27 x ⟨#[58]⟩).2.1 else 0):=rfl;have hB:raB x=(decide (0<(raX x).1)&&((y27 x ⟨#[58]⟩).2.2==decide (0<(raX x).2))):=rfl;obtain⟨C,hC⟩:∃ C,C=y27 x ⟨#[58]⟩:=⟨_,rfl⟩;rw [<-hC] at CSP hX hB hsz;obtain⟨a,b,two⟩:=C;dsimp only at CSP hX hB hsz;have CPK:=qh λ w' hb=>qs8 a w' (HT.out w' hb)
           have CPN:=qh λ w'=>(z06 b w' (by unfold maxLen;omega)).mono λ _ _ h=>And.intro h.1 h.2.symm
           obtain⟨K,hK⟩:∃ K,K=plW XF4 a:=⟨_,rfl⟩;obtain⟨N0,hN0⟩:∃ N,N=rnN b:=⟨_,rfl⟩;rw [<-hK] at CPK hX;rw [<-hN0] at CPN hX;obtain⟨N,hN⟩:∃ N,N=if two=true then N0 else 0:=⟨_,rfl⟩
           rw [<-hN] at hX;rw [hX] at hB hnx;dsimp only at hB;obtain⟨rb,hrb⟩:∃ rb,rb=raB x:=⟨_,rfl⟩;rw [<-hrb] at hB hnb;have HNX:=qh hnx;have HNB:=qh hnb;have HB:=qh hB;have HN:=qh hN;have y0:wr.cell? ⟨gq,j,none⟩=some (.string x):=(by rw [hx];exact HQ.out.at_ hlj);clear hnx hnb hX hB hC hK hN0 hN hrb hx hsz HLx;go_wp2_with fail;refine(CSP.out _).mono ?_;rintro e w6 ⟨rfl,q,hq⟩;have HQ6:=qh (HQ.out.kept (wr':=w6) (by rw [hq];exact below_drewN (Below.refl _ _) q));clear hq HQ CSP y0;go_wp2_with fail;refine(CPK.out _ HQ6.out.r2.be).mono ?_;rintro e w' ⟨rfl,rfl⟩;go_upto_region 27 with fail;obtain⟨W7,hW7⟩:∃ W7,w6.alloc (.cells #[.int .i64 K,.int .i64 0] 55)=W7:=⟨_,rfl⟩;have HZ7:=qh (HQ6.out.box 55 #[.int .i64 K,.int .i64 0]);rw [hW7] at HZ7⊢;obtain⟨gX,hgX⟩:∃ gX,w6.heap.size=gX:=⟨_,rfl⟩;rw [hgX] at HZ7⊢;clear hW7 hgX HQ6 CPK;go_upto_if 132 with fail;go_cut [] from 133 to 135 (λ wx=>Hid (Lz w wx ⟨id,ph,l,[],false,0,{data:=#[]},xl,c2,A,c',none,0,X,xc⟩ w5.heap.size gq cq L2 55 2 (.slice X xl.length xc) xl.length (xl.flatMap jQ1) (.slice A l.length c') l.length (l.flatMap zl0) gX 55 #[.int .i64 K,.int .i64 N]))
           case first=>
            have f1:=HZ7.out.z.frozen 1;have d1:=Blk.e1 HZ7.out.z;clear HNX HNB HB CPL CUN CPP CAT HI HE2;cases two with
            |true=>
             obtain⟨V2,hV2⟩:∃ V2,W7.setCell ⟨gX,1,none⟩ (.int .i64 N0)=V2:=⟨_,rfl⟩;have HY2:=qh (HZ7.out.set 1 (.int .i64 N0));have hn:N=N0:=HN.out.trans (if_pos rfl);subst hn;rw [hV2] at HY2;clear HN HZ7;go_wp2_with fail;refine(CPN.out _).mono ?_;rintro e w' ⟨rfl,rfl⟩;go_wp2_with fail;go_meet;exact HY2
            |false=>
             have hn:N=0:=HN.out.trans (if_neg (by decide));subst hn;clear HN;go_wp2_with fail;go_meet;exact HZ7
           case rest=>
            have HZ8:=hcut;clear hcut HZ7 CPN HN;obtain⟨W8,rfl⟩:∃ W8:World,W8=wc:=⟨_,rfl⟩;obtain⟨c0,d1⟩:=Blk.c2 HZ8.out.z;go_upto_region 29 with fail;go_cut [5] from 136 to 148 (λ u wx=>u= .bool (ob&&rb)/\W8=wx)
            case first=>
             have HB2:=HB.out;clear HB HNX HNB HZ8 CPL CUN CPP CAT HI HE2;by_cases hk9:0<K
             . have k9:decide ((0:Int)<K)=true:=decide_eq_true hk9;by_cases hn9:0<N
               focus
                have n9:decide ((0:Int)<N)=true:=decide_eq_true hn9
               rotate_left
               focus
                have n9:decide ((0:Int)<N)=false:=decide_eq_false hn9
               all_goals
                rw [k9,n9] at HB2;replace HB2:=qh HB2;clear hk9 hn9;cases ob<;>cases two
                all_goals
                 go_wp2_with fail;go_meet;exact⟨by rw [HB2.out];rfl,rfl⟩
             . have k9:decide ((0:Int)<K)=false:=decide_eq_false hk9;rw [k9] at HB2;replace HB2:=qh HB2;clear hk9;cases ob
               all_goals
                go_wp2_with fail;go_meet;exact⟨by rw [HB2.out];rfl,rfl⟩
            case rest=>
             obtain⟨rfl,rfl⟩:=hcut;obtain⟨_,_,_,_,_,_,_,u7,_⟩:=z19 HZ8.out.p.r2.v;dsimp only at u7;have hz8:=HZ8.out.p.b1;go_wp2_with (first|(at_builtin;refine ZX2 rfl (.tmp 150) (.tmp 152) rfl HZ8.out.p.own rfl (K,N) rfl (by omega) hz8 ?_;intro A5 c5 w9 h9 b9;have HR9:=qh (HZ8.out.mid b9);obtain⟨_,_,_,_,_,_,_,u9,_⟩:=z19 HR9.out.v;dsimp only at u9;have fu:=HR9.out.fz 7;obtain⟨Wa,hWa⟩:∃ Wa,w9.setCell ⟨w.heap.size+1,7,none⟩ (.slice A5 (xl.length+1) c5)=Wa:=⟨_,rfl⟩)|fail);have eL:(xl++ [(K,N)]).length=xl.length+1:=by simp
             have HPa:Hid (Lp w Wa ⟨id,ph,l,[],false,0,{data:=#[]},xl++ [(K,N)],c2,A,c',none,0,A5,c5⟩ w5.heap.size gq cq L2 55 2 (.slice A5 (xl++ [(K,N)]).length c5) (xl++ [(K,N)]).length ((xl++ [(K,N)]).flatMap jQ1) (.slice A l.length c') l.length (l.flatMap zl0)):=qh (by
              rw [<-hWa,eL];refine HZ8.out.app h9 b9 7 ?_;rw [List.setIfInBounds_toArray];show (_:Array Value)=(Zn7 ⟨id,ph,l,[],false,0,{data:=#[]},xl++ [(K,N)],c2,A,c',none,0,A5,c5⟩).toArray;unfold Zn7;dsimp only;rw [eL];rfl)
             go_roundw
             case rel=>exact⟨j+1,A5,c5,xl++ [(K,N)],ob&&rb,rfl,by go_num,by omega,qh ⟨HNX.out.1,HNX.out.2,HNB.out⟩,HPa⟩
             case measure=>simp [intOf];omega
         . obtain rfl:j=L2.length:=by omega
           have HL2e:Hid (xl=L2.map raX/\ob=(okb&&L2.all raB)):=qh (by
            have h:=HLx.out;rw [List.take_length] at h;exact⟨h.1,h.2.2⟩)
           have HE3:Hid (E=if ob=false\/id<0\/ph<0\/op=0\/¬ae=0 then 3 else ze):=qh (by
            rw [HE2.out,HL2e.out.2,HL1e.out.2];cases L1.all rvB<;>cases L2.all raB<;>simp)
           have HI3:Hid (E=0->∀ (VA ZA XA:Option Addr) (vc zc xc:Nat),IsRu ws ⟨id,ph,l,zl,no,op,ar,xl,c2,VA,vc,ZA,zc,XA,xc⟩):=qh (by rw [HL1e.out.1,HL2e.out.1];exact HI.out);have HV6:Hid (R3 w wr ⟨id,ph,l,[],false,0,{data:=#[]},xl,c2,A,c',none,0,X,xc⟩):=qh ⟨HQ.out.r2,HQ.out.v,OI.nil _ _,jJ8 HQ.out.own HQ.out.b0⟩;clear HLx hlj hj j0 HL2e HL1e HI HE2 HQ;have Y5:wr.cell? ⟨g0,5,none⟩=some (.string (wAt ws 5)):=HY.out wr HV6.out.1.be 5 (by omega);go_wp2_with fail;refine(CAT.out _).mono ?_;rintro e w' ⟨rfl,rfl⟩;go_upto_if 159 with fail;clear Y5 CAT;go_cut [18] from 160 to 162 (λ u wx=>u= .string x5/\Hid (R3 w wx ⟨id,ph,l,[],no,0,{data:=#[]},xl,c2,A,c',none,0,X,xc⟩))
           case first=>
            obtain⟨V1,hV1⟩:∃ V1,wr.drew=V1:=⟨_,rfl⟩;have HU1:Hid (R3 w V1 ⟨id,ph,l,[],false,0,{data:=#[]},xl,c2,A,c',none,0,X,xc⟩):=qh (by rw [<-hV1];exact HV6.out.drew);have f4:=HV6.out.1.fz 4;have f5:=HU1.out.1.fz 4;obtain⟨_,_,_,_,d4,_,_,_,_⟩:=z19 HU1.out.1.v;obtain⟨_,_,_,_,d5,_,_,_,_⟩:=z19 HV6.out.1.v;dsimp only at d4 d5;have hx9:(wAt ws 5).size<=9223372036854775807:=(by have:=HSz.out 5;omega);clear CPL CUN CPP HI3 HE3;cases no with
            |true=>
             obtain⟨h,h1⟩:=HX5.out.1 rfl;have HTX:=qh h;have i1:(1:Int)<=((wAt ws 5).size:Int):=(by omega);obtain⟨V2,hV2⟩:∃ V2,V1.setCell ⟨w.heap.size+1,4,none⟩ (.bool true)=V2:=⟨_,rfl⟩;have HY2:Hid (R3 w V2 ⟨id,ph,l,[],true,0,{data:=#[]},xl,c2,A,c',none,0,X,xc⟩):=qh (by rw [<-hV2];exact HU1.out.set 4 _ ⟨HU1.out.2.vs,HU1.out.2.zs,HU1.out.2.xs⟩ rfl);clear HX5 h HU1 HV6;go_wp2_with fail;go_region
             all_goals go_wp2_with fail
             all_goals
              go_meet;exact⟨by rw [HTX.out],HY2⟩
            |false=>
             have HTX:=qh (HX5.out.2 rfl);clear HX5 HU1;go_wp2_with fail;go_meet;exact⟨by rw [HTX.out],HV6⟩
           case rest=>
            obtain⟨rfl,HVc⟩:=hcut;obtain⟨W6,rfl⟩:∃ W6:World,W6=wc:=⟨_,rfl⟩;clear HV6 HX5;have f7:=HVc.out.1.fz 5;obtain⟨_,_,_,_,_,c7,_,_,_⟩:=z19 HVc.out.1.v;dsimp only at c7;obtain⟨W7,hW7⟩:∃ W7,W6.setCell ⟨w.heap.size+1,5,none⟩ (.int .i64 op)=W7:=⟨_,rfl⟩;have HV7:Hid (R3 w W7 ⟨id,ph,l,[],no,op,{data:=#[]},xl,c2,A,c',none,0,X,xc⟩):=qh (by rw [<-hW7];exact HVc.out.set 5 _ ⟨HVc.out.2.vs,HVc.out.2.zs,HVc.out.2.xs⟩ rfl);have Y6:W7.cell? ⟨g0,6,none⟩=some (.string (wAt ws 6)):=HY.out W7 HV7.out.1.be 6 (by omega);go_wp2_with fail;refine(CPL.out _ HVc.out.1.be).mono ?_;rintro e w' ⟨rfl,rfl⟩;go_wp2_with fail;refine(CUN.out _).mono ?_;rintro e w8 ⟨rfl,b8⟩;have HV8:=qh (HV7.out.kept (b8.mono (Nat.le_refl _)));clear b8 HV7 HVc hW7 f7 c7 CUN CPL Y6;have f8:=HV8.out.1.fz 6;obtain⟨_,_,_,_,_,_,c8,_,_⟩:=z19 HV8.out.1.v;dsimp only at c8;obtain⟨W9,hW9⟩:∃ W9,w8.setCell ⟨w.heap.size+1,6,none⟩ (.string ar)=W9:=⟨_,rfl⟩;have HV9:Hid (R3 w W9 ⟨id,ph,l,[],no,op,ar,xl,c2,A,c',none,0,X,xc⟩):=qh (by rw [<-hW9];exact HV8.out.set 6 _ ⟨HV8.out.2.vs,HV8.out.2.zs,HV8.out.2.xs⟩ rfl);have Y4:W9.cell? ⟨g0,4,none⟩=some (.string (wAt ws 4)):=HY.out W9 HV9.out.1.be 4 (by omega);go_upto_region 37 with fail;clear hW9 f8 c8 HV8;go_wp2_with fail;refine(CPP.out _ HV9.out.1.be).mono ?_;rintro e wa ⟨v,rfl,ho,ba⟩;obtain⟨ZA,zc,rfl⟩:=OI.form ho;have HOa:=qh (jJ8 ho HV9.out.own);have HVa:=qh (HV9.out.kept ba);clear ho ba HV9 CPP Y4;have fa:=HVa.out.1.fz 3;obtain⟨_,_,_,ca,_,_,_,_,_⟩:=z19 HVa.out.1.v;dsimp only [List.length_nil] at ca;obtain⟨Wb,hWb⟩:∃ Wb,wa.setCell ⟨w.heap.size+1,3,none⟩ (.slice ZA zl.length zc)=Wb:=⟨_,rfl⟩;have HVb:Hid (R3 w Wb ⟨id,ph,l,zl,no,op,ar,xl,c2,A,c',ZA,zc,X,xc⟩):=qh (by rw [<-hWb];exact HVa.out.set 3 _ ⟨HVa.out.2.vs,HOa.out,HVa.out.2.xs⟩ rfl);go_upto_region 39 with fail;clear hWb fa ca HOa HVa HY;obtain⟨t0,t1,t2,t3,t4,t5,t6,t7,t8⟩:=z19 HVb.out.1.v;obtain⟨r0,r1,r2,r3,r4,r5,r6,r7,r8⟩:=z19 HVb.out.1.z;dsimp only at t0 t1 t2 t3 t4 t5 t6 t7 t8
            dsimp only [zRu,List.length_nil] at r0 r1 r2 r3 r4 r5 r6 r7 r8;have fr0:=HVb.out.1.rfz 0;have fr1:=HVb.out.1.rfz 1;have fr2:=HVb.out.1.rfz 2;have fr3:=HVb.out.1.rfz 3;have fr4:=HVb.out.1.rfz 4;have fr5:=HVb.out.1.rfz 5;have fr6:=HVb.out.1.rfz 6;have fr7:=HVb.out.1.rfz 7;have fr8:=HVb.out.1.rfz 8;obtain⟨hz,hzb,hzo⟩:=HVb.out.put;obtain⟨wz,hwz⟩:∃ wz,wz=Z57 Wb w.heap.size ⟨id,ph,l,zl,no,op,ar,xl,c2,A,c',ZA,zc,X,xc⟩:=⟨_,rfl⟩;rw [<-hwz] at hz hzb hzo;unfold Z57 at hwz;dsimp only at hwz;have HZ:=qh hz;have HZB:=qh hzb;have HZO:=qh hzo;have HWZ:=qh hwz;clear hz hzb hzo hwz HVb
            have hs:(ob=false/\E=3)\/(ob=true/\decide (id<0)=true/\E=3)\/(ob=true/\decide (id<0)=false/\decide (ph<0)=true/\E=3)\/(ob=true/\decide (id<0)=false/\decide (ph<0)=false/\(op==0)=true/\E=3)\/(ob=true/\decide (id<0)=false/\decide (ph<0)=false/\(op==0)=false/\(ae==0)=false/\E=3)\/(ob=true/\decide (id<0)=false/\decide (ph<0)=false/\(op==0)=false/\(ae==0)=true/\E=ze):=by
             rw [HE3.out];cases ob
             . simp
             by_cases a0:id<0
             . simp [a0]
             by_cases a1:ph<0
             . simp [a0,a1]
             by_cases a2:op=0
             . simp [a0,a1,a2]
             by_cases a3:ae=0
             . simp [a0,a1,a2,a3]
             . simp [a0,a1,a2,a3]
            clear HE3;rcases hs with⟨rfl,k9⟩|⟨rfl,k0,k9⟩|⟨rfl,k0,k1,k9⟩|⟨rfl,k0,k1,k2,k9⟩|⟨rfl,k0,k1,k2,k3,k9⟩|⟨rfl,k0,k1,k2,k3,k9⟩
            all_goals
             replace k9:=qh k9;go_wp2_with fail;rw [<-HWZ.out];obtain⟨z0,z1,z2,z3,z4,z5,z6,z7,z8⟩:=z19 HZ.out;dsimp only at z0 z1 z2 z3 z4 z5 z6 z7 z8;refine bodyPost_ret (v:= .tuple #[.agg (Zn7 ⟨id,ph,l,zl,no,op,ar,xl,c2,A,c',ZA,zc,X,xc⟩).toArray,.int .i64 E]) (by rw [k9.out];simp [results,Tryz.results19,go_sem,Zn7,z0,z1,z2,z3,z4,z5,z6,z7,z8]) rfl ⟨_,rfl,λ h=>⟨HI3.out h ..,HZO.out⟩,HZB.out⟩
 . have HF:Hid (E=3):=qh (by rw [HE.out];unfold rdE;rw [if_pos (Bool.eq_false_iff.2 hok)])
   have hcc:¬ws.length=8\/(ws.length=8/\((wAt ws 0).toList== [114,117,108,101])=false/\((wAt ws 0).toList== [99,104,97,105,110])=false):=by
    by_cases h8:ws.length=8
    . refine .inr ⟨h8,?_,?_⟩
      . rw [Z49 (t:=JH3) (L:= [114,117,108,101]) rfl];exact decide_eq_false λ h=>hok (by unfold JG6;rw [h,h8];decide)
      . rw [Z49 (t:=Ym5) (L:= [99,104,97,105,110]) rfl];exact decide_eq_false λ h=>hok (by unfold JG6;rw [h,h8];decide)
    . exact .inl h8
   clear hok HE HT HSz;generalize hLn:ws.length=n at*;go_enter Tryz.func19,Tryz.ntmps19;go_upto_region 2 with fail;obtain⟨W0,hW0⟩:∃ W0,((w.alloc (.cells (Zn7 zRu).toArray 44)).alloc (.cells (Zn7 zRu).toArray 44))=W0:=⟨_,rfl⟩;unfold zRu at hW0;dsimp only [Zn7,List.length_nil] at hW0;have hst0:R3 w W0 zRu:=(by rw [<-hW0];exact hst);rw [hW0];have HV0:=qh hst0;clear hW0 hst hst0;obtain⟨t0,t1,t2,t3,t4,t5,t6,t7,t8⟩:=z19 HV0.out.1.v;obtain⟨r0,r1,r2,r3,r4,r5,r6,r7,r8⟩:=z19 HV0.out.1.z;dsimp only [zRu,List.length_nil] at t0 t1 t2 t3 t4 t5 t6 t7 t8 r0 r1 r2 r3 r4 r5 r6 r7 r8;have fr0:=HV0.out.1.rfz 0;have fr1:=HV0.out.1.rfz 1;have fr2:=HV0.out.1.rfz 2;have fr3:=HV0.out.1.rfz 3;have fr4:=HV0.out.1.rfz 4;have fr5:=HV0.out.1.rfz 5;have fr6:=HV0.out.1.rfz 6;have fr7:=HV0.out.1.rfz 7;have fr8:=HV0.out.1.rfz 8;obtain⟨hz,hzb,_⟩:=HV0.out.put;obtain⟨wz,hwz⟩:∃ wz,wz=Z57 W0 w.heap.size zRu:=⟨_,rfl⟩;rw [<-hwz] at hz hzb;unfold Z57 at hwz;dsimp only [zRu,List.length_nil] at hwz;have HZ:=qh hz;have HZB:=qh hzb;have HWZ:=qh hwz;clear hz hzb hwz;rcases hcc with h|⟨rfl,q1,q2⟩
   focus
    have e1:((n:Int)==8)=false:=(by rw [beq_eq_false_iff_ne];omega);have e2:decide ((n:Int)=8)=false:=dF (by omega);have e3:¬(n:Int)=8:=by omega
   rotate_left
   focus
    have Y0:W0.cell? ⟨g0,0,none⟩=some (.string (wAt ws 0)):=HY.out W0 HV0.out.1.be 0 (by omega)
   all_goals
    go_wp2_with fail;rw [<-HWZ.out];obtain⟨z0,z1,z2,z3,z4,z5,z6,z7,z8⟩:=z19 HZ.out;dsimp only [zRu,List.length_nil] at z0 z1 z2 z3 z4 z5 z6 z7 z8;refine bodyPost_ret (v:= .tuple #[.agg (Zn7 zRu).toArray,.int .i64 E]) (by rw [HF.out];simp [results,Tryz.results19,go_sem,Zn7,zRu,z0,z1,z2,z3,z4,z5,z6,z7,z8]) rfl ⟨_,rfl,λ h=>absurd (HF.out.symm.trans h) (by decide),HZB.out⟩
end
end Go.Proofs.YtngepacmgabmaaaGreatDoor
