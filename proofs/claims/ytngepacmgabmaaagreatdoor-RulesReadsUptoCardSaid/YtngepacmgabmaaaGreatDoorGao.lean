/- Walk: rules.read: a rule out of its word; The rules read so far, beside the slice  .. -/
import Derived.Test.YtngepacmgabmaaaGreatDoorGan
namespace Go.Proofs.YtngepacmgabmaaaGreatDoor
open Go.RowKit
set_option linter.unusedVariables false
set_option linter.unusedSimpArgs false
theorem Z49 {s t:ByteArray} {L:List UInt8} (hL:t.data.toList=L):(s.toList==L)=decide (s=t):=by
 rw [Bool.eq_iff_iff,beq_iff_eq,decide_eq_true_iff,Lib.toList_data,<-hL];exact⟨λ h=>zH9 h,λ h=>by rw [h]⟩
theorem K14 {w:World} {B:Nat} {E:TypeId} {sz n:Nat} {v:Value} {xs:List Value} (h:w.ownsRow B E sz v n xs) {p:Addr} (hp:p.block<B) (u:Value):(w.setCell p u).ownsRow B E sz v n xs:=by
 rcases h.2 with e|⟨x,cap,cur,e,hx,hw,r⟩
 . exact⟨h.1,.inl e⟩
 . exact⟨h.1,.inr ⟨x,cap,cur,e,hx,(Below.heap_setCell w p u x (by omega)).trans hw,r⟩⟩
theorem RuO.set {w:World} {B:Nat} {r:Ru} (o:RuO w B r) {p:Addr} (hp:p.block<B) (u:Value):RuO (w.setCell p u) B r:=⟨K14 o.vs hp u,K14 o.zs hp u,K14 o.xs hp u⟩
theorem RuO.kept {w w':World} {B:Nat} {r:Ru} (o:RuO w B r) (hb:Below w.heap.size w w'):RuO w' B r:=⟨ji4 o.vs hb,ji4 o.zs hb,ji4 o.xs hb⟩
def R3 (w wr:World) (r:Ru):Prop:=R2 w wr r/\RuO wr (w.heap.size+2) r
section
variable {w wr wr':World} {r:Ru}
theorem R3.start (h:R2 w wr zRu):R3 w wr zRu:=⟨h,World.ownsRow_nil _ _ _ _,World.ownsRow_nil _ _ _ _,World.ownsRow_nil _ _ _ _⟩
theorem R3.kept (h:R3 w wr r) (hb:Below wr.heap.size wr wr'):R3 w wr' r:=⟨h.1.kept hb,h.2.kept hb⟩
theorem R3.drew (h:R3 w wr r):R3 w wr.drew r:=⟨h.1.drewN 1,h.2.vs,h.2.zs,h.2.xs⟩
theorem R3.set (h:R3 w wr r) (i:Nat) (u:Value) {r':Ru} (o:RuO wr (w.heap.size+2) r') (e:(Zn7 r).set i u=Zn7 r'):R3 w (wr.setCell ⟨w.heap.size+1,i,none⟩ u) r':=
 ⟨h.1.set i u (by rw [List.setIfInBounds_toArray,e]),o.set (Nat.lt_succ_self _) u⟩
theorem R3.put (h:R3 w wr r):Blk (Z57 wr w.heap.size r) w.heap.size 44 (Zn7 r).toArray/\Below w.heap.size w (Z57 wr w.heap.size r)/\RuO (Z57 wr w.heap.size r) (w.heap.size+2) r:=by
 have h2:=h.1.put;refine⟨h2.1,h2.2,?_⟩;have hp:w.heap.size<w.heap.size+2:=by omega
 unfold Z57;exact((((((((h.2.set hp _).set hp _).set hp _).set hp _).set hp _).set hp _).set hp _).set hp _).set hp _
theorem R3.own (h:R3 w wr r):wr.heap.size>=w.heap.size+2:=h.1.lt
end
section
variable (ws:List ByteArray) (g0 cap B:Nat) (m:Int) (w:World)
set_option maxRecDepth 100000 in
set_option maxHeartbeats 8000000 in
theorem Qg9 (hO:OS w B (.slice (some ⟨g0,0,none⟩) ws.length cap) ws) (hg0:g0<w.heap.size) (hs:∀ x∈ws,x.size<=1048576) (hl:ws.length<=1048577) (hm:w.cell? ⟨4,0,none⟩=some (.int .i64 m)):
 Calls Tryz.prog 15 #[.slice (some ⟨g0,0,none⟩) ws.length cap] w (KB2 ws w):=by
 have hgm:=World.block_lt_of_cell? _ _ hm;have hst:=R3.start (R2.start w)
 have hY:∀ k,k<ws.length->w.cell? ⟨g0,k,none⟩=some (.string (wAt ws k)):=λ k hk=>by
  obtain⟨g,e,_,_,hc,hcell⟩:=hO.at_ (by omega);cases e;rw [hcell k hk];unfold wAt List.getD;rw [List.getElem?_eq_getElem hk];rfl
 have hSz:∀ k,(wAt ws k).size<=1048576:=λ k=>by
  by_cases hk:k<ws.length
  . unfold wAt List.getD;rw [List.getElem?_eq_getElem hk];exact hs _ (List.getElem_mem hk)
  . unfold wAt List.getD;rw [List.getElem?_eq_none (by omega)];exact Nat.zero_le _
 have HY:=qh λ w' (hb:Below w.heap.size w w') k (hk:k<ws.length)=>(hb.cell (p:=⟨g0,k,none⟩) hg0).trans (hY k hk)
 have HSz:=qh hSz;have HM:=qh λ w' (hb:Below w.heap.size w w')=>(hb.cell (p:=⟨4,0,none⟩) hgm).trans hm
 obtain⟨E,hE⟩:∃ E,E=rdE ws:=⟨_,rfl⟩;unfold KB2;rw [<-hE];have HE:=qh hE;clear hE hO hY hSz hm hs;by_cases hok:JG6 ws=true
 . have h8:ws.length=8:=by
    unfold JG6 at hok;rw [Bool.and_eq_true,decide_eq_true_eq] at hok;exact hok.1
   have hcc:∃ ch:Bool,ch=decide (wAt ws 0=Ym5)/\((wAt ws 0).toList== [114,117,108,101])= !ch/\((wAt ws 0).toList== [99,104,97,105,110])=ch:=by
    unfold JG6 at hok;rw [Bool.and_eq_true,Bool.or_eq_true,decide_eq_true_eq,decide_eq_true_eq,decide_eq_true_eq] at hok;rcases hok.2 with h|h
    . exact⟨false,by rw [h];decide,by rw [h,Z49 (t:=JH3) (L:= [114,117,108,101]) rfl];decide,by rw [h,Z49 (t:=Ym5) (L:= [99,104,97,105,110]) rfl];decide⟩
    . exact⟨true,by rw [h];decide,by rw [h,Z49 (t:=JH3) (L:= [114,117,108,101]) rfl];decide,by rw [h,Z49 (t:=Ym5) (L:= [99,104,97,105,110]) rfl];decide⟩
   obtain⟨ch,hch,q1,q2⟩:=hcc;have HCH:=qh hch;obtain⟨id,hid⟩:∃ id,id=rnN (wAt ws 1):=⟨_,rfl⟩;obtain⟨ph,hph⟩:∃ id,id=rnN (wAt ws 2):=⟨_,rfl⟩;obtain⟨⟨vl,vb⟩,hvl⟩:∃ id,id=rlV (wAt ws 3):=⟨_,rfl⟩;obtain⟨zl,hzl⟩:∃ id,id=rpL (wAt ws 4):=⟨_,rfl⟩;obtain⟨ze,hze⟩:∃ id,id=rpE (wAt ws 4):=⟨_,rfl⟩;obtain⟨no,hno⟩:∃ id,id=j11 (wAt ws 5) ⟨#[33]⟩:=⟨_,rfl⟩;obtain⟨op,hop⟩:∃ id,id=plW Zd4 (YB0 (wAt ws 5)):=⟨_,rfl⟩;obtain⟨ar,har⟩:∃ id,id=str (zn2 (wAt ws 6).data.toList):=⟨_,rfl⟩;obtain⟨ae,hae⟩:∃ id,id=KN6 (wAt ws 6).data.toList:=⟨_,rfl⟩;obtain⟨⟨xl,xb⟩,hxl⟩:∃ id,id=rlA (wAt ws 7):=⟨_,rfl⟩;have HI:=qh fun(VA ZA XA:Option Addr) (vc zc xc:Nat)=>show IsRu ws ⟨id,ph,vl,zl,no,op,ar,xl,ch,VA,vc,ZA,zc,XA,xc⟩ from ⟨hid,hph,by rw [<-hvl],hzl,hno,hop,har,by rw [<-hxl],hch⟩
   have HE2:Hid (E=if id<0\/ph<0\/vb=false\/xb=false\/op=0\/¬ae=0 then 3 else ze):=qh (by
    rw [HE.out,hid,hph,hop,hae,hze];unfold rdE;rw [<-hvl,<-hxl];rw [if_neg (by rw [hok];decide)])
   have CN1:=qh λ w'=>(zh5 (wAt ws 1) w' (by have:=HSz.out 1;unfold maxLen;omega)).mono λ _ _ h=>And.intro h.1 h.2.symm
   have CN2:=qh λ w'=>(zh5 (wAt ws 2) w' (by have:=HSz.out 2;unfold maxLen;omega)).mono λ _ _ h=>And.intro h.1 h.2.symm
   have CLV:=qh λ w' (hb:Below w.heap.size w w')=>zZ4 (wAt ws 3) m w' (HSz.out 3) (HM.out w' hb)
   have CLA:=qh λ w' (hb:Below w.heap.size w w')=>JI4 (wAt ws 7) m w' (HSz.out 7) (HM.out w' hb)
   have CPR:=qh λ w'=>qV8 (wAt ws 5) ⟨#[33]⟩ w'
   have CPL:=qh λ w'=>kx8 (YB0 (wAt ws 5)) w'
   have CUN:=qh λ w'=>yS4 (wAt ws 6) w' (by have:=HSz.out 6;omega)
   have CPP:=qh λ w' (hb:Below w.heap.size w w')=>xq0 (wAt ws 4) m w' (HSz.out 4) (HM.out w' hb)
   unfold xt1 at CLV;unfold qo5 at CLA;unfold PRes at CPP;unfold YB0 at hop CPL;obtain⟨x5,hx5⟩:∃ id,id=Ju6 (wAt ws 5) ⟨#[33]⟩:=⟨_,rfl⟩;rw [<-hx5] at hop CPR CPL;rw [<-hid] at CN1;rw [<-hph] at CN2;rw [<-hvl] at CLV;rw [<-hxl] at CLA;rw [<-hno] at CPR;rw [<-hop] at CPL;rw [<-har,<-hae] at CUN;rw [<-hzl,<-hze] at CPP;have hop0:0<=op:=(by rw [hop];exact zS1 _ _);clear hid hph hvl hzl hze hno hop har hae hxl hx5 hok hch HE HSz HM;rw [h8];go_enter Tryz.func15,Tryz.ntmps15;go_upto_region 2 with fail;obtain⟨W0,hW0⟩:∃ W0,((w.alloc (.cells (Zn7 zRu).toArray 44)).alloc (.cells (Zn7 zRu).toArray 44))=W0:=⟨_,rfl⟩;unfold zRu at hW0;dsimp only [Zn7,List.length_nil] at hW0;have hst0:R3 w W0 zRu:=(by rw [<-hW0];exact hst);rw [hW0];have HV0:=qh hst0;clear hW0 hst hst0;have Y0:W0.cell? ⟨g0,0,none⟩=some (.string (wAt ws 0)):=HY.out W0 HV0.out.1.be 0 (by omega);have fz0:=HV0.out.1.fz 8;obtain⟨c00,_,_,_,_,_,_,_,c08⟩:=z19 HV0.out.1.v;dsimp only [zRu] at c08;obtain⟨W1,hW1⟩:∃ W1,W0.setCell ⟨w.heap.size+1,8,none⟩ (.bool ch)=W1:=⟨_,rfl⟩;have HV1:Hid (R3 w W1 ⟨0,0,[],[],false,0,{data:=#[]},[],ch,none,0,none,0,none,0⟩):=qh (by rw [<-hW1];exact HV0.out.set 8 _ ⟨HV0.out.2.vs,HV0.out.2.zs,HV0.out.2.xs⟩ rfl);obtain⟨c2,hc2⟩:∃ c2,c2=ch:=⟨_,rfl⟩;rw [<-hc2] at HV1 HI;clear hc2 HCH;obtain⟨V1,hV1⟩:∃ V1,W1.drew=V1:=⟨_,rfl⟩;have HU1:Hid (R3 w V1 ⟨0,0,[],[],false,0,{data:=#[]},[],c2,none,0,none,0,none,0⟩):=qh (by rw [<-hV1];exact HV1.out.drew);obtain⟨Va,hVa⟩:∃ Va,V1.setCell ⟨w.heap.size+1,0,none⟩ (.int .i64 id)=Va:=⟨_,rfl⟩;have HVa:Hid (R3 w Va ⟨id,0,[],[],false,0,{data:=#[]},[],c2,none,0,none,0,none,0⟩):=qh (by rw [<-hVa];exact HU1.out.set 0 _ ⟨HU1.out.2.vs,HU1.out.2.zs,HU1.out.2.xs⟩ rfl);obtain⟨Vb,hVb⟩:∃ Vb,Va.setCell ⟨w.heap.size+1,1,none⟩ (.int .i64 ph)=Vb:=⟨_,rfl⟩;have HVb:Hid (R3 w Vb ⟨id,ph,[],[],false,0,{data:=#[]},[],c2,none,0,none,0,none,0⟩):=qh (by rw [<-hVb];exact HVa.out.set 1 _ ⟨HVa.out.2.vs,HVa.out.2.zs,HVa.out.2.xs⟩ rfl)
   go_cut [25] from 11 to 25 (λ u wx=>u= .bool false/\W0=wx)
   case first=>
    clear CLV CLA CPR CPL CUN CPP CN1 CN2 HI HE2;cases ch
    all_goals
     go_wp2_with fail;go_meet;exact⟨rfl,rfl⟩
   case rest=>
    obtain⟨rfl,rfl⟩:=hcut;go_upto_region 5 with fail;clear q1 q2 hW1 fz0 c00 c08 HV0 Y0;go_cut [] from 11 to 42 (λ wx=>Hid (R3 w wx ⟨id,ph,[],[],false,0,{data:=#[]},[],c2,none,0,none,0,none,0⟩))
    case first=>
     have Y1:V1.cell? ⟨g0,1,none⟩=some (.string (wAt ws 1)):=HY.out V1 HU1.out.1.be 1 (by omega);have Y2:V1.cell? ⟨g0,2,none⟩=some (.string (wAt ws 2)):=HY.out V1 HU1.out.1.be 2 (by omega);have Y3:Va.cell? ⟨g0,2,none⟩=some (.string (wAt ws 2)):=HY.out Va HVa.out.1.be 2 (by omega);obtain⟨d0,d1,_,_,_,_,_,_,_⟩:=z19 HU1.out.1.v;obtain⟨_,d2,_,_,_,_,_,_,_⟩:=z19 HVa.out.1.v;dsimp only at d0 d1 d2;have e0:=HU1.out.1.fz 0;have e1:=HVa.out.1.fz 1;clear HI HE2 CLV CLA CPR CPL CUN CPP;have HS:Hid (∀ w',Below w.heap.size w w'->w'.cell? ⟨g0,1,none⟩=some (.string (wAt ws 1))/\w'.cell? ⟨g0,2,none⟩=some (.string (wAt ws 2))):=qh λ w' h=>⟨HY.out w' h 1 (by omega),HY.out w' h 2 (by omega)⟩
     have hb1:=HU1.out.1.be;have hb2:=HVa.out.1.be;have hb3:=HVb.out.1.be;have hb4:=hb1;rw [<-hV1] at hb4;clear Y1 Y2 Y3 HY
     go_region_held3 (λ w'=>w'.cell? ⟨g0,1,none⟩=some (.string (wAt ws 1))/\w'.cell? ⟨g0,2,none⟩=some (.string (wAt ws 2))) (exact HS.out _ (by assumption))
      (first
       |(go_at_call 14;(with_reducible refine(CN1.out _).mono ?_);rintro e w' ⟨rfl,rfl⟩)
       |(go_at_call 14;(with_reducible refine(CN2.out _).mono ?_);rintro e w' ⟨rfl,rfl⟩)
       |fail)
     all_goals
      go_wp2_with fail;go_meet;exact HVb
    case rest=>
     have HV2:=hcut;clear hcut HU1 HVa HVb hV1 hVa hVb CN1 CN2 HV1;have Y3:wc.cell? ⟨g0,3,none⟩=some (.string (wAt ws 3)):=HY.out wc HV2.out.1.be 3 (by omega);go_wp2_with fail;refine(CLV.out _ HV2.out.1.be).mono ?_;rintro e w3 ⟨v,rfl,ho,b3⟩;obtain⟨VA,vc,rfl⟩:=qT4 ho;have HO3:=qh (jJ8 ho HV2.out.own);have HV3:=qh (HV2.out.kept b3);clear ho b3 HV2 CLV Y3;have f3:=HV3.out.1.fz 2;obtain⟨_,_,c3,_,_,_,_,_,_⟩:=z19 HV3.out.1.v;dsimp only [List.length_nil] at c3;obtain⟨W4,hW4⟩:∃ W4,w3.setCell ⟨w.heap.size+1,2,none⟩ (.slice VA vl.length vc)=W4:=⟨_,rfl⟩;have HV4:Hid (R3 w W4 ⟨id,ph,vl,[],false,0,{data:=#[]},[],c2,VA,vc,none,0,none,0⟩):=qh (by rw [<-hW4];exact HV3.out.set 2 _ ⟨HO3.out,HV3.out.2.zs,HV3.out.2.xs⟩ rfl);have Y7:W4.cell? ⟨g0,7,none⟩=some (.string (wAt ws 7)):=HY.out W4 HV4.out.1.be 7 (by omega);go_upto_region 8 with fail;clear hW4 f3 c3 HO3 HV3;go_wp2_with fail;refine(CLA.out _ HV4.out.1.be).mono ?_;rintro e w5 ⟨v,rfl,ho,b5⟩;obtain⟨XA,xc,rfl⟩:=qT4 ho;have HO5:=qh (jJ8 ho HV4.out.own);have HV5:=qh (HV4.out.kept b5);clear ho b5 HV4 CLA Y7;have f5:=HV5.out.1.fz 7;obtain⟨_,_,_,_,_,_,_,c5,_⟩:=z19 HV5.out.1.v;dsimp only [List.length_nil] at c5;obtain⟨W6,hW6⟩:∃ W6,w5.setCell ⟨w.heap.size+1,7,none⟩ (.slice XA xl.length xc)=W6:=⟨_,rfl⟩;have HV6:Hid (R3 w W6 ⟨id,ph,vl,[],false,0,{data:=#[]},xl,c2,VA,vc,none,0,XA,xc⟩):=qh (by rw [<-hW6];exact HV5.out.set 7 _ ⟨HV5.out.2.vs,HV5.out.2.zs,HO5.out⟩ rfl);have Y5:W6.cell? ⟨g0,5,none⟩=some (.string (wAt ws 5)):=HY.out W6 HV6.out.1.be 5 (by omega);go_upto_region 9 with fail;clear hW6 f5 c5 HO5 HV5;go_wp2_with fail;refine(CPR.out _).mono ?_;rintro e w' ⟨rfl,rfl⟩;go_upto_region 10 with fail;clear Y5 CPR;have f6:=HV6.out.1.fz 4;have f7:=HV6.out.1.fz 5;obtain⟨_,_,_,_,c6,c7,_,_,_⟩:=z19 HV6.out.1.v;dsimp only at c6 c7;obtain⟨W7,hW7⟩:∃ W7,(W6.setCell ⟨w.heap.size+1,4,none⟩ (.bool no)).setCell ⟨w.heap.size+1,5,none⟩ (.int .i64 op)=W7:=⟨_,rfl⟩
     have HV7:Hid (R3 w W7 ⟨id,ph,vl,[],no,op,{data:=#[]},xl,c2,VA,vc,none,0,XA,xc⟩):=qh (by rw [<-hW7];exact(HV6.out.set 4 (.bool no) (r':=⟨id,ph,vl,[],no,0,{data:=#[]},xl,c2,VA,vc,none,0,XA,xc⟩) ⟨HV6.out.2.vs,HV6.out.2.zs,HV6.out.2.xs⟩ rfl).set 5 _ ⟨K14 HV6.out.2.vs (Nat.lt_succ_self _) _,K14 HV6.out.2.zs (Nat.lt_succ_self _) _,K14 HV6.out.2.xs (Nat.lt_succ_self _) _⟩ rfl);have Y6:W7.cell? ⟨g0,6,none⟩=some (.string (wAt ws 6)):=HY.out W7 HV7.out.1.be 6 (by omega);go_wp2_with (first|(refine(CPL.out _).mono ?_;rintro e w' ⟨rfl,rfl⟩)|fail);refine(CUN.out _).mono ?_;rintro e w8 ⟨rfl,b8⟩;have HV8:=qh (HV7.out.kept (b8.mono (Nat.le_refl _)));clear b8 HV7 HV6 hW7 f6 f7 c6 c7 CUN CPL Y6;have f8:=HV8.out.1.fz 6;obtain⟨_,_,_,_,_,_,c8,_,_⟩:=z19 HV8.out.1.v;dsimp only at c8;obtain⟨W9,hW9⟩:∃ W9,w8.setCell ⟨w.heap.size+1,6,none⟩ (.string ar)=W9:=⟨_,rfl⟩;have HV9:Hid (R3 w W9 ⟨id,ph,vl,[],no,op,ar,xl,c2,VA,vc,none,0,XA,xc⟩):=qh (by rw [<-hW9];exact HV8.out.set 6 _ ⟨HV8.out.2.vs,HV8.out.2.zs,HV8.out.2.xs⟩ rfl);have Y4:W9.cell? ⟨g0,4,none⟩=some (.string (wAt ws 4)):=HY.out W9 HV9.out.1.be 4 (by omega);go_upto_region 13 with fail;clear hW9 f8 c8 HV8;go_wp2_with fail;refine(CPP.out _ HV9.out.1.be).mono ?_;rintro e wa ⟨v,rfl,ho,ba⟩;obtain⟨ZA,zc,rfl⟩:=OI.form ho;have HOa:=qh (jJ8 ho HV9.out.own);have HVa:=qh (HV9.out.kept ba);clear ho ba HV9 CPP Y4;have fa:=HVa.out.1.fz 3;obtain⟨_,_,_,ca,_,_,_,_,_⟩:=z19 HVa.out.1.v;dsimp only [List.length_nil] at ca;obtain⟨Wb,hWb⟩:∃ Wb,wa.setCell ⟨w.heap.size+1,3,none⟩ (.slice ZA zl.length zc)=Wb:=⟨_,rfl⟩;have HVb:Hid (R3 w Wb ⟨id,ph,vl,zl,no,op,ar,xl,c2,VA,vc,ZA,zc,XA,xc⟩):=qh (by rw [<-hWb];exact HVa.out.set 3 _ ⟨HVa.out.2.vs,HOa.out,HVa.out.2.xs⟩ rfl);go_upto_region 14 with fail;clear hWb fa ca HOa HVa HY;obtain⟨t0,t1,t2,t3,t4,t5,t6,t7,t8⟩:=z19 HVb.out.1.v;obtain⟨r0,r1,r2,r3,r4,r5,r6,r7,r8⟩:=z19 HVb.out.1.z;dsimp only at t0 t1 t2 t3 t4 t5 t6 t7 t8;dsimp only [zRu,List.length_nil] at r0 r1 r2 r3 r4 r5 r6 r7 r8;have fr0:=HVb.out.1.rfz 0
     have fr1:=HVb.out.1.rfz 1;have fr2:=HVb.out.1.rfz 2;have fr3:=HVb.out.1.rfz 3;have fr4:=HVb.out.1.rfz 4;have fr5:=HVb.out.1.rfz 5;have fr6:=HVb.out.1.rfz 6;have fr7:=HVb.out.1.rfz 7;have fr8:=HVb.out.1.rfz 8;obtain⟨hz,hzb,hzo⟩:=HVb.out.put;obtain⟨wz,hwz⟩:∃ wz,wz=Z57 Wb w.heap.size ⟨id,ph,vl,zl,no,op,ar,xl,c2,VA,vc,ZA,zc,XA,xc⟩:=⟨_,rfl⟩;rw [<-hwz] at hz hzb hzo;unfold Z57 at hwz;dsimp only at hwz;have HZ:=qh hz;have HZB:=qh hzb;have HZO:=qh hzo;have HWZ:=qh hwz;clear hz hzb hzo hwz HVb
     have hs:(decide (id<0)=true/\E=3)\/(decide (id<0)=false/\decide (ph<0)=true/\E=3)\/(decide (id<0)=false/\decide (ph<0)=false/\vb=false/\E=3)\/(decide (id<0)=false/\decide (ph<0)=false/\vb=true/\xb=false/\E=3)\/(decide (id<0)=false/\decide (ph<0)=false/\vb=true/\xb=true/\(op==0)=true/\E=3)\/(decide (id<0)=false/\decide (ph<0)=false/\vb=true/\xb=true/\(op==0)=false/\(ae==0)=false/\E=3)\/(decide (id<0)=false/\decide (ph<0)=false/\vb=true/\xb=true/\(op==0)=false/\(ae==0)=true/\E=ze):=by
      rw [HE2.out];by_cases a0:id<0
      . simp [a0]
      by_cases a1:ph<0
      . simp [a0,a1]
      cases vb
      . simp [a0,a1]
      cases xb
      . simp [a0,a1]
      by_cases a2:op=0
      . simp [a0,a1,a2]
      by_cases a3:ae=0
      . simp [a0,a1,a2,a3]
      . simp [a0,a1,a2,a3]
     clear HE2;rcases hs with⟨k0,k9⟩|⟨k0,k1,k9⟩|⟨k0,k1,rfl,k9⟩|⟨k0,k1,rfl,rfl,k9⟩|⟨k0,k1,rfl,rfl,k2,k9⟩|⟨k0,k1,rfl,rfl,k2,k3,k9⟩|⟨k0,k1,rfl,rfl,k2,k3,k9⟩
     all_goals
      replace k9:=qh k9;go_wp2_with fail;rw [<-HWZ.out];obtain⟨z0,z1,z2,z3,z4,z5,z6,z7,z8⟩:=z19 HZ.out;dsimp only at z0 z1 z2 z3 z4 z5 z6 z7 z8;refine bodyPost_ret (v:= .tuple #[.agg (Zn7 ⟨id,ph,vl,zl,no,op,ar,xl,c2,VA,vc,ZA,zc,XA,xc⟩).toArray,.int .i64 E]) (by rw [k9.out];simp [results,Tryz.results15,go_sem,Zn7,z0,z1,z2,z3,z4,z5,z6,z7,z8]) rfl ⟨_,rfl,λ _=>⟨HI.out ..,HZO.out⟩,HZB.out⟩
 . have HF:Hid (E=3):=qh (by rw [HE.out];unfold rdE;rw [if_pos (Bool.eq_false_iff.2 hok)])
   have hcc:¬ws.length=8\/(ws.length=8/\((wAt ws 0).toList== [114,117,108,101])=false/\((wAt ws 0).toList== [99,104,97,105,110])=false):=by
    by_cases h8:ws.length=8
    . refine .inr ⟨h8,?_,?_⟩
      . rw [Z49 (t:=JH3) (L:= [114,117,108,101]) rfl];exact decide_eq_false λ h=>hok (by unfold JG6;rw [h,h8];decide)
      . rw [Z49 (t:=Ym5) (L:= [99,104,97,105,110]) rfl];exact decide_eq_false λ h=>hok (by unfold JG6;rw [h,h8];decide)
    . exact .inl h8
   clear hok HE HM HSz;generalize hLn:ws.length=n at*;go_enter Tryz.func15,Tryz.ntmps15;go_upto_region 2 with fail;obtain⟨W0,hW0⟩:∃ W0,((w.alloc (.cells (Zn7 zRu).toArray 44)).alloc (.cells (Zn7 zRu).toArray 44))=W0:=⟨_,rfl⟩;unfold zRu at hW0;dsimp only [Zn7,List.length_nil] at hW0;have hst0:R3 w W0 zRu:=(by rw [<-hW0];exact hst);rw [hW0];have HV0:=qh hst0;clear hW0 hst hst0;obtain⟨t0,t1,t2,t3,t4,t5,t6,t7,t8⟩:=z19 HV0.out.1.v;obtain⟨r0,r1,r2,r3,r4,r5,r6,r7,r8⟩:=z19 HV0.out.1.z;dsimp only [zRu,List.length_nil] at t0 t1 t2 t3 t4 t5 t6 t7 t8 r0 r1 r2 r3 r4 r5 r6 r7 r8;have fr0:=HV0.out.1.rfz 0;have fr1:=HV0.out.1.rfz 1;have fr2:=HV0.out.1.rfz 2;have fr3:=HV0.out.1.rfz 3;have fr4:=HV0.out.1.rfz 4;have fr5:=HV0.out.1.rfz 5;have fr6:=HV0.out.1.rfz 6;have fr7:=HV0.out.1.rfz 7;have fr8:=HV0.out.1.rfz 8;obtain⟨hz,hzb,_⟩:=HV0.out.put;obtain⟨wz,hwz⟩:∃ wz,wz=Z57 W0 w.heap.size zRu:=⟨_,rfl⟩;rw [<-hwz] at hz hzb;unfold Z57 at hwz;dsimp only [zRu,List.length_nil] at hwz;have HZ:=qh hz;have HZB:=qh hzb;have HWZ:=qh hwz;clear hz hzb hwz;rcases hcc with h|⟨rfl,q1,q2⟩
   focus
    have e1:((n:Int)==8)=false:=(by rw [beq_eq_false_iff_ne];omega);have e2:decide ((n:Int)=8)=false:=dF (by omega);have e3:¬(n:Int)=8:=by omega
   rotate_left
   focus
    have Y0:W0.cell? ⟨g0,0,none⟩=some (.string (wAt ws 0)):=HY.out W0 HV0.out.1.be 0 (by omega)
   all_goals
    go_wp2_with fail;rw [<-HWZ.out];obtain⟨z0,z1,z2,z3,z4,z5,z6,z7,z8⟩:=z19 HZ.out;dsimp only [zRu,List.length_nil] at z0 z1 z2 z3 z4 z5 z6 z7 z8;refine bodyPost_ret (v:= .tuple #[.agg (Zn7 zRu).toArray,.int .i64 E]) (by rw [HF.out];simp [results,Tryz.results15,go_sem,Zn7,zRu,z0,z1,z2,z3,z4,z5,z6,z7,z8]) rfl ⟨_,rfl,λ h=>absurd (HF.out.symm.trans h) (by decide),HZB.out⟩
end
theorem z20 (f:List UInt8->Option (UInt8×Nat)):∀ (n:Nat) (l:List UInt8),l.length<=n->∀ A,XP3 f l=some A->A.length<=l.length
 |_,[],_,A,h=>by rw [Jy1] at h;cases h;exact Nat.le_refl _
 |0,c::r,hl,_,_=>by rw [List.length_cons] at hl;omega
 |n+1,c::r,hl,A,h=>by
  rw [List.length_cons] at hl;rw [XP3] at h;cases hf:f (c::r) with
  |none=>rw [hf] at h;cases h
  |some p=>
   obtain⟨b,k⟩:=p;rw [hf] at h;dsimp only at h;cases hd:XP3 f (r.drop (k-1)) with
   |none=>rw [hd] at h;cases h
   |some X=>
    rw [hd] at h;cases h;have:=z20 f n _ (by rw [List.length_drop];omega) X hd;rw [List.length_drop] at this;rw [List.length_cons,List.length_cons];omega
theorem jB8 (s:ByteArray):(str (zn2 s.data.toList)).size<=s.size:=by
 rw [<-qX6,Qe9,<-qX6];unfold zn2;split
 . exact Nat.zero_le _
 . cases h:XP3 unF s.data.toList with
   |none=>exact Nat.zero_le _
   |some A=>exact z20 _ _ _ (Nat.le_refl _) A h
theorem k72 (s:ByteArray):(rvV s).n.size<=s.size:=Nat.le_trans (Jb0 _ _).2 (Km8 s)
theorem IsRu.bnd {ws:List ByteArray} {r:Ru} (h:IsRu ws r) {N:Nat} (hs:∀ k,(wAt ws k).size<=N):r.arg.size<=N/\∀ v∈r.vs,v.n.size<=N:=by
 refine⟨by rw [h.arg];exact Nat.le_trans (jB8 _) (hs 6),?_⟩;rw [h.vs];unfold rlV;split
 . intro v hv;obtain⟨x,hx,rfl⟩:=List.mem_map.1 hv;exact Nat.le_trans (k72 x) (Nat.le_trans (zN9 ⟨#[44]⟩ (by decide) _ _ (Nat.le_refl _) x hx) (hs 3))
 . intro v hv;cases hv
theorem KK5 {w:World} {B:Nat} {E:TypeId} {sz n c:Nat} {A:Option Addr} {xs:List Value} (h:w.ownsRow B E sz (.slice A n c) n xs):n<=c/\c<=9223372036854775807:=by
 rcases h.2 with⟨e,h2⟩|⟨x,cap,cur,e,_,_,h3,h4,_⟩
 . injection e with _ _ e;omega
 . injection e with _ _ e;unfold maxLen at h4;omega
theorem xA4 {w w':World} {v v' u:Value} {B:Nat} {E:TypeId} {sz n:Nat} {xs:List Value} (hG:Grew w w' v v') (hr:w.ownsRow B E sz u n xs) (h:u.ownBlock=none\/u.ownBlock≠v.ownBlock):u.ownBlock=none\/u.ownBlock≠v'.ownBlock:=by
 rcases hG.home with e|⟨g,e,hg⟩
 . rw [e];exact h
 . cases hu:u.ownBlock with
   |none=>exact .inl rfl
   |some x=>exact .inr (by rw [e];intro k;injection k with k;have:=(World.ownsRow.lt hr x hu).2;omega)
theorem XY4 {w:World} {u v:Value} {B:Nat} {E:TypeId} {sz n:Nat} {xs:List Value} (hr:w.ownsRow B E sz u n xs) (hv:∀ g,v.ownBlock=some g->g<B):u.ownBlock=none\/u.ownBlock≠v.ownBlock:=by
 cases hu:u.ownBlock with
 |none=>exact .inl rfl
 |some x=>exact .inr λ k=>by have:=hv x k.symm;have:=(World.ownsRow.lt hr x hu).1;omega
structure RuX (w:World) (B:Nat) (v:Value) (r:Ru):Prop where
 o:RuO w B r
 va:(Value.slice r.VA r.vs.length r.vc).ownBlock=none\/(Value.slice r.VA r.vs.length r.vc).ownBlock≠v.ownBlock
 za:(Value.slice r.ZA r.zs.length r.zc).ownBlock=none\/(Value.slice r.ZA r.zs.length r.zc).ownBlock≠v.ownBlock
 xa:(Value.slice r.XA r.xs.length r.xc).ownBlock=none\/(Value.slice r.XA r.xs.length r.xc).ownBlock≠v.ownBlock
section
variable {w w':World} {B B':Nat} {v v':Value} {r:Ru}
theorem RuX.grew (h:RuX w B v r) (hG:Grew w w' v v'):RuX w' B v' r:=
 ⟨⟨World.ownsRow.kept h.o.vs hG.grown h.va,World.ownsRow.kept h.o.zs hG.grown h.za,World.ownsRow.kept h.o.xs hG.grown h.xa⟩,xA4 hG h.o.vs h.va,xA4 hG h.o.zs h.za,xA4 hG h.o.xs h.xa⟩
theorem RuX.kept (h:RuX w B v r) (hb:Below w.heap.size w w'):RuX w' B v r:=⟨h.o.kept hb,h.va,h.za,h.xa⟩
theorem RuX.set (h:RuX w B v r) {p:Addr} (hp:p.block<B) (u:Value):RuX (w.setCell p u) B v r:=⟨h.o.set hp u,h.va,h.za,h.xa⟩
theorem RuX.new (o:RuO w B' r) (hB:B<=B') (hv:∀ g,v.ownBlock=some g->g<B'):RuX w B v r:=
 ⟨⟨jJ8 o.vs hB,jJ8 o.zs hB,jJ8 o.xs hB⟩,XY4 o.vs hv,XY4 o.zs hv,XY4 o.xs hv⟩
theorem RuO.m (h:RuO w B r) (hb:r.arg.size<=1048576/\∀ v∈r.vs,v.n.size<=1048576):RuM w w.heap.size r:=
 ⟨⟨Reads.of_own h.vs,(KK5 h.vs).1,(KK5 h.vs).2,hb.2⟩,Reads.of_own h.zs,Reads.of_own h.xs,KK5 h.zs,KK5 h.xs,hb.1⟩
end
theorem X06:(Tryz.prog.info? 44).map (λ i=>(i.zero,i.size,i.bytes))=some (some (.agg (Zn7 zRu).toArray),9,128):=by kernel_rfl
theorem XJ2 (r:Ru):∀ u∈Zn7 r,u.oneCell'=true:=by
 intro u hu;simp only [Zn7,List.mem_cons,List.not_mem_nil,or_false] at hu;rcases hu with rfl|rfl|rfl|rfl|rfl|rfl|rfl|rfl|rfl
 all_goals rfl
theorem yh4 {w:World} {B:Nat} {v:Value} {l:List Ru} {ops:Array Oper} {rest:List Oper} {o:Oper} {a:Act} {Q:Exit->Act->World->Prop} (hgd:o.guard=none) (s y:Operand)
 (ho:o.op= .call {callee:= .builtin .append,args:=#[s,y],argTypes:=#[22,22]})
 (h:w.ownsRow B 44 9 v l.length (l.flatMap Zn7)) (hs:a.eval s=v) (x:Ru)
 (hx:a.eval y= .slice (some ⟨w.heap.size,0,none⟩) 1 1) (hlen:l.length<=1000000000) (hB:B<=w.heap.size)
 (hK:∀ A c w',w'.ownsRow B 44 9 (.slice A (l.length+1) c) (l.length+1) ((l++ [x]).flatMap Zn7)->Grew w w' v (.slice A (l.length+1) c)->wpList Tryz.prog ops Q rest (a.put o.dst (.slice A (l.length+1) c)) w'):
 wpList Tryz.prog ops Q (o::rest) a (w.alloc (.cells (Zn7 x).toArray 44)):=by
 obtain⟨i0,hi0,hz0,hz1,hz2⟩:=info_parts X06;refine zM8 (P:=Tryz.prog) (Q:=Q) (rest:=rest) (ops:=ops) hgd s y ho Tryz.underlying22 hi0 hz0 hz1 hz2 rfl (by decide) h hs (Zn7 x) 1 1 hx rfl (XJ2 x) (by unfold maxLen;omega) (by omega) hB λ v' w' h4 h5=> ?_
 have e:l.flatMap Zn7++Zn7 x=(l++ [x]).flatMap Zn7:=by rw [List.flatMap_append];simp
 rw [e] at h4;obtain⟨A,c,rfl⟩:=qT4 h4;exact hK A c w' h4 h5
structure P2 (w wr:World) (most st:Int) (v:Value):Prop where
 z:Blk wr w.heap.size 24 #[.int .i64 0,.int .i64 0,.slice none 0 0]
 b:Blk wr (w.heap.size+1) 24 #[.int .i64 most,.int .i64 st,v]
 be:Below w.heap.size w wr
section
variable {w wr wr':World} {most st:Int} {v v':Value}
theorem P2.start (w:World):P2 w ((w.alloc (.cells #[.int .i64 0,.int .i64 0,.slice none 0 0] 24)).alloc (.cells #[.int .i64 0,.int .i64 0,.slice none 0 0] 24)) 0 0 (.slice none 0 0):=by
 refine⟨Blk.alloc (Blk.new _ _ _) _,?_,((Below.refl _ _).alloc (Nat.le_refl _) _).alloc (by simp) _⟩;have:=Blk.new (w.alloc (.cells #[.int .i64 0,.int .i64 0,.slice none 0 0] 24)) 24 #[.int .i64 0,.int .i64 0,.slice none 0 0]
 simpa using this
theorem P2.lt (h:P2 w wr most st v):w.heap.size+1<wr.heap.size:=Blk.lt h.b
theorem P2.kept (h:P2 w wr most st v) (hb:Below wr.heap.size wr wr'):P2 w wr' most st v:=⟨h.z.below hb (Blk.lt h.z),h.b.below hb (Blk.lt h.b),h.be.trans (hb.mono (by have:=h.lt;omega))⟩
theorem P2.drewN (h:P2 w wr most st v) (q:Nat):P2 w (wr.drewN q) most st v:=⟨h.z,h.b,below_drewN h.be q⟩
theorem P2.set0 (h:P2 w wr most st v) (x:Int):P2 w (wr.setCell ⟨w.heap.size+1,0,none⟩ (.int .i64 x)) x st v:=⟨h.z.far (by simp) _,h.b.set_ 0 _,h.be.setCell (p:=⟨w.heap.size+1,0,none⟩) (Nat.le_succ _) _⟩
theorem P2.set1 (h:P2 w wr most st v) (x:Int):P2 w (wr.setCell ⟨w.heap.size+1,1,none⟩ (.int .i64 x)) most x v:=⟨h.z.far (by simp) _,h.b.set_ 1 _,h.be.setCell (p:=⟨w.heap.size+1,1,none⟩) (Nat.le_succ _) _⟩
theorem P2.set2 (h:P2 w wr most st v) (v':Value):P2 w (wr.setCell ⟨w.heap.size+1,2,none⟩ v') most st v':=⟨h.z.far (by simp) _,h.b.set_ 2 _,h.be.setCell (p:=⟨w.heap.size+1,2,none⟩) (Nat.le_succ _) _⟩
theorem P2.grew (h:P2 w wr most st v) {u u':Value} (hG:Grew wr wr' u u') (hu:∀ g,u.ownBlock=some g->w.heap.size+2<=g):P2 w wr' most st v:=
 ⟨hG.blk h.z λ e=>by have:=hu _ e;omega,hG.blk h.b λ e=>by have:=hu _ e;omega,h.be.trans (hG.below (B:=w.heap.size) (by have:=h.lt;omega) λ g e=>by have:=hu g e;omega)⟩
theorem zq5 {g:Nat} (h:Blk wr g 24 #[.int .i64 most,.int .i64 st,v]):wr.cell? ⟨g,0,none⟩=some (.int .i64 most)/\wr.cell? ⟨g,1,none⟩=some (.int .i64 st)/\wr.cell? ⟨g,2,none⟩=some v:=⟨h.cell 0,h.cell 1,h.cell 2⟩
def ql7 (wr:World) (g:Nat) (most st:Int) (v:Value):World:=((wr.setCell ⟨g,0,none⟩ (.int .i64 most)).setCell ⟨g,1,none⟩ (.int .i64 st)).setCell ⟨g,2,none⟩ v
theorem yj6 (h:Blk wr w.heap.size 24 #[.int .i64 most,.int .i64 st,v]) (hb:Below w.heap.size w wr) (m s:Int) (u:Value):Blk (ql7 wr w.heap.size m s u) w.heap.size 24 #[.int .i64 m,.int .i64 s,u]/\Below w.heap.size w (ql7 wr w.heap.size m s u):=by
 have h2:=((h.set_ 0 (.int .i64 m)).set_ 1 (.int .i64 s)).set_ 2 u;exact⟨h2,((hb.setCell (p:=⟨w.heap.size,0,none⟩) (Nat.le_refl _) _).setCell (p:=⟨w.heap.size,1,none⟩) (Nat.le_refl _) _).setCell (p:=⟨w.heap.size,2,none⟩) (Nat.le_refl _) _⟩
end
structure Rls (w wr:World) (A:Option Addr) (c:Nat) (X:List ByteArray) (l:List Ru):Prop where
 is:IsRl X l
 own:wr.ownsRow (w.heap.size+2) 44 9 (.slice A l.length c) l.length (l.flatMap Zn7)
 ok:∀ r∈l,RuX wr (w.heap.size+2) (.slice A l.length c) r/\r.arg.size<=1048576/\∀ v∈r.vs,v.n.size<=1048576
section
variable {w wr wr':World} {A:Option Addr} {c:Nat} {X:List ByteArray} {l:List Ru}
theorem Rls.start (w wr:World):Rls w wr none 0 [] []:=⟨rfl,World.ownsRow_nil _ _ _ _,λ r hr=>by cases hr⟩
theorem Rls.kept (h:Rls w wr A c X l) (hb:Below wr.heap.size wr wr'):Rls w wr' A c X l:=⟨h.is,ji4 h.own hb,λ r hr=>⟨(h.ok r hr).1.kept hb,(h.ok r hr).2⟩⟩
theorem Rls.set (h:Rls w wr A c X l) {p:Addr} (hp:p.block<w.heap.size+2) (u:Value):Rls w (wr.setCell p u) A c X l:=⟨h.is,K14 h.own hp u,λ r hr=>⟨(h.ok r hr).1.set hp u,(h.ok r hr).2⟩⟩
theorem Rls.more (h:Rls w wr A c X l) {r:Ru} {x:ByteArray} {A':Option Addr} {c':Nat} (hi:IsRu (qx4 x) r) (hr:RuX wr (w.heap.size+2) (.slice A l.length c) r) (hb:r.arg.size<=1048576/\∀ v∈r.vs,v.n.size<=1048576)
 (ho:wr'.ownsRow (w.heap.size+2) 44 9 (.slice A' (l.length+1) c') (l.length+1) ((l++ [r]).flatMap Zn7)) (hG:Grew wr wr' (.slice A l.length c) (.slice A' (l.length+1) c')):Rls w wr' A' c' (X++ [x]) (l++ [r]):=by
 have e:(l++ [r]).length=l.length+1:=by simp
 refine⟨h.is.snoc hi,by rw [e];exact ho,λ q hq=> ?_⟩;rw [e];rcases List.mem_append.1 hq with h1|h1
 . exact⟨(h.ok q h1).1.grew hG,(h.ok q h1).2⟩
 . rw [List.mem_singleton] at h1;subst h1;exact⟨hr.grew hG,hb⟩
theorem Rls.row (h:Rls w wr A c X l):RuR wr wr.heap.size A c l:=⟨Reads.of_own h.own,Nat.le_refl _,KK5 h.own,λ r hr=>(h.ok r hr).1.o.m (h.ok r hr).2⟩
theorem Rls.lt (h:Rls w wr A c X l):∀ g,(Value.slice A l.length c).ownBlock=some g->w.heap.size+2<=g/\g<wr.heap.size:=World.ownsRow.lt h.own
end
theorem RuR.nil (w:World):RuR w w.heap.size none 0 []:=⟨Reads.of_own (World.ownsRow_nil w 0 44 9),Nat.le_refl _,⟨Nat.le_refl _,Nat.zero_le _⟩,λ r hr=>by cases hr⟩
def RsR (EL EE:Int) (s:ByteArray) (w:World) (e:Ending) (w':World):Prop:=∃ (most st:Int) (A:Option Addr) (c:Nat) (l:List Ru),e= .returned (.tuple #[.agg #[.int .i64 most,.int .i64 st,.slice A l.length c],.int .i64 EL,.int .i64 EE])/\(EE=0->most=rnN (wAt (qx4 ((pcs s nlB).getD 0 ByteArray.empty)) 1)/\st=rnN (wAt (qx4 ((pcs s nlB).getD 0 ByteArray.empty)) 2)/\IsRl ((pcs s nlB).dropLast.drop 1) l)/\(¬EE=0->most=0/\st=0/\l= [])/\RuR w' w'.heap.size A c l/\Below w.heap.size w w'
def KN4 (s:ByteArray) (w:World):Ending->World->Prop:=RsR (txE s).1 (txE s).2 s w
theorem RsR.bad {EL EE E2:Int} {s:ByteArray} {w w':World} (h:EE=E2) (h2:¬E2=0) (hb:Below w.heap.size w w'):RsR EL EE s w (.returned (.tuple #[.agg #[.int .i64 0,.int .i64 0,.slice none 0 0],.int .i64 EL,.int .i64 EE])) w':=
 ⟨0,0,none,0,[],rfl,λ h3=>absurd (h.symm.trans h3) h2,λ _=>⟨rfl,rfl,rfl⟩,RuR.nil _,hb⟩
end Go.Proofs.YtngepacmgabmaaaGreatDoor
