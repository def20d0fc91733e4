/- Walk: (*wickref.text).row. (printed by g; Walk: wickref.weight: the size of a tree .. -/
import Derived.Test.YtngepacmgabmaaaGreatDoorGz
namespace Go.Proofs.YtngepacmgabmaaaGreatDoor
open Go.RowKit
set_option linter.unusedVariables false
set_option linter.unusedSimpArgs false
set_option maxRecDepth 100000 in
set_option maxHeartbeats 8000000 in
theorem zI6 (s:ByteArray) (hs:s.size<=200) (op:Int) (hop:0<=op/\op<=20) (R:Sx->Rx×Sx) (hRow:q10 171 op s R) (hGo:GoS s R):q10 147 op s (rwF s R):=by
 intro g w x he hp hR;have HROW:=qh hRow;have HGO:=qh hGo;clear hRow hGo;obtain⟨W,hW⟩:∃ W,w.alloc (.cells #[.int .i64 0,.int .u64 0,.int .u64 0,.int .u64 0,.int .u64 0,.slice none 0 0] 125)=W:=⟨_,rfl⟩;have hWR:Tq (270-op) W g s x op:=by rw [<-hW];exact hR.alloc _
 have hWE:Blk W w.heap.size 125 #[.int .i64 0,.int .u64 0,.int .u64 0,.int .u64 0,.int .u64 0,.slice none 0 0]:=by rw [<-hW];exact Blk.new w _ _
 have hWK:KeptOff w W g:=by rw [<-hW];exact KeptOff.refl.alloc _
 have hglt:g<w.heap.size:=hR.lt;have hWz:W.heap.size=w.heap.size+1:=by rw [<-hW];simp
 have HWR:=qh hWR;have HWE:=qh hWE;have HWK:=qh hWK;obtain⟨F,hF⟩:∃ F,F=rwF s R x:=⟨_,rfl⟩;rw [<-hF];have HF:=qh hF;clear hWR hWE hWK hR hF;go_enter Tryz.func147,Tryz.ntmps147;go_wp2_with fail;refine(Qo4 2 none 0 0 _).mono ?_;rintro e w0 ⟨rfl,hb0⟩;have hz0:W.heap.size<=w0.heap.size:=hb0.size;have hX1:Ty (270-op) w g w0.heap.size s x op (six 2 0 0 0 0 none 0 0) (w0.alloc (.cells #[.int .i64 2,.int .u64 0,.int .u64 0,.int .u64 0,.int .u64 0,.slice none 0 0] 125)):=⟨(HWR.out.below hb0).alloc _,(Blk.below HWE.out hb0 (Blk.lt HWE.out)).alloc _,Blk.new w0 _ _,(HWK.out.tr (KeptOff.of_below hb0)).alloc _,hglt,by omega⟩;have HX1:=qh hX1;clear hX1 hb0 hW;go_upto_region 2 with fail;obtain⟨gT,hgT⟩:∃ gT,w0.heap.size=gT:=⟨_,rfl⟩;rw [hgT] at HX1⊢;obtain⟨W1,hW1⟩:∃ W1,w0.alloc (.cells #[.int .i64 2,.int .u64 0,.int .u64 0,.int .u64 0,.int .u64 0,.slice none 0 0] 125)=W1:=⟨_,rfl⟩;rw [hW1] at HX1⊢;clear hW1 hgT hz0 hWz HWR HWE HWK;have CP:=qh (YF5 s hs (270-op) x op g W1 HX1.out.rd);go_wp2_with fail;refine CP.out.mono ?_;rintro e w2 ⟨rfl,qq,hqq⟩;have HX2:=qh (HX1.out.step (wr':=w2) (by rw [hqq];exact below_drewN (Below.refl _ _) qq));have HT2:Hid (x.e=0->∃ n,RxT w2 (InT w gT w2) n (Y41 2) (six 2 0 0 0 0 none 0 0)):=qh λ _=>⟨1,RxT.leaf w2 _ 2 zq q30 (by decide) (by decide)⟩
 clear hqq CP HX1;go_wp2_with fail
 go_loopg [4,5] (s.size+2) (λ q v4 v5 wr=>∃ (m:Nat) (t:Rx) (y:Sx) (x0 x1 x2 x3 x4:Int) (xA:Option Addr) (xl xc:Nat) (b:Bool),v4= .bool b/\v5= .string (pk s y)/\q=m/\y.p<=s.size/\(b=true->y.e=0->s.size-y.p<m)/\(b=false->m=s.size+2/\y=x)/\Hid (b=false->t=Y41 2/\F=rwF s R x/\y=x)/\Hid (b=true->F=lpR s R m t y)/\Hid (Ty (270-op) w g gT s y op (six x0 x1 x2 x3 x4 xA xl xc) wr)/\Hid (y.e=0->∃ n,RxT wr (InT w gT wr) n t (six x0 x1 x2 x3 x4 xA xl xc)))
 case atStart=>exact⟨s.size+2,Y41 2,x,2,0,0,0,0,none,0,0,false,rfl,rfl,rfl,hp,(λ k=>by cases k),(λ _=>⟨rfl,rfl⟩),qh (λ _=>⟨rfl,HF.out,rfl⟩),qh (λ k=>by cases k),HX2,HT2⟩
 case round=>
  clear HX2 HT2 HF;obtain⟨m,t,y,x0,x1,x2,x3,x4,xA,xl,xc,b,rfl,rfl,hqm,hyp,hq,hq0,HF0,HF1,HX,HT⟩:=hrel;have HG:=qh hqm;clear hqm;by_cases hey:enB s y=true
  . have HFe:Hid (F=(t,y)):=qh (by
     cases b with
     |false=>
      obtain⟨h1,h2,h3⟩:=HF0.out rfl;rw [h2,h1,<-h3];unfold rwF;rw [if_pos hey]
     |true=>rw [HF1.out rfl];exact zP4 m hey)
    have hen:nx s y<0\/nx s y=124\/nx s y=41:=(by unfold enB at hey;exact of_decide_eq_true hey);clear hey HF0 HF1;rcases hen with hnx|hnx|hnx
    focus
     have enil:(pk s y).toList.isEmpty=true:=by rw [ZG7];exact decide_eq_true (by omega)
    rotate_left
    focus
     have enil:(pk s y).toList.isEmpty=false:=(by rw [ZG7];exact decide_eq_false (by omega));have e124:((pk s y).toList== [124])=true:=by rw [Xj2];exact beq_iff_eq.2 (show nx s y=124 from hnx)
    rotate_left
    focus
     have enil:(pk s y).toList.isEmpty=false:=(by rw [ZG7];exact decide_eq_false (by omega));have e124:((pk s y).toList== [124])=false:=(by rw [Xj2];exact beq_eq_false_iff_ne.2 (show ¬nx s y=124 from by omega));have e41:((pk s y).toList== [41])=true:=by rw [Xj2];exact beq_iff_eq.2 (show nx s y=41 from hnx)
    all_goals
     have HX9:=HX;have HT9:=HT;clear HX HT hq hnx;obtain⟨w9,rfl⟩:∃ w9,w9=wr:=⟨_,rfl⟩;obtain⟨s0,s1,s2,s3,s4,s5⟩:=Blk.c6 HX9.out.te;obtain⟨r0,r1,r2,r3,r4,r5⟩:=Blk.c6 HX9.out.re;obtain⟨fr0,fr1,fr2,fr3,fr4,fr5⟩:=Blk.f6 HX9.out.re;have HZ:=qh (J42 (cs:= [.int .i64 0,.int .u64 0,.int .u64 0,.int .u64 0,.int .u64 0,.slice none 0 0]) HX9.out.re rfl x0 x1 x2 x3 x4 xA xl xc);have hne:=HX9.out.lt;have HZK:=qh (HX9.out.ko.put6 (Nat.le_refl _) x0 x1 x2 x3 x4 xA xl xc);have HZR:=qh (Tq.far6 HX9.out.rd (by omega:w.heap.size≠g) x0 x1 x2 x3 x4 xA xl xc);have HZS:=qh (j80 w9 w.heap.size x0 x1 x2 x3 x4 xA xl xc)
     have HZT:Hid (y.e=0->∃ n,RxT ((((((w9.setCell ⟨w.heap.size,0,none⟩ (.int .i64 x0)).setCell ⟨w.heap.size,1,none⟩ (.int .u64 x1)).setCell ⟨w.heap.size,2,none⟩ (.int .u64 x2)).setCell ⟨w.heap.size,3,none⟩ (.int .u64 x3)).setCell ⟨w.heap.size,4,none⟩ (.int .u64 x4)).setCell ⟨w.heap.size,5,none⟩ (.slice xA xl xc)) (λ b=>w.heap.size<=b/\b<w9.heap.size) n t (six x0 x1 x2 x3 x4 xA xl xc)):=qh λ hy=>by
      obtain⟨n,hn⟩:=HT9.out hy;exact⟨n,(hn.put6 (λ k=>absurd k.1 (Nat.lt_irrefl _)) x0 x1 x2 x3 x4 xA xl xc).weak λ b hb=>⟨Nat.le_of_lt hb.1,hb.2.1⟩⟩
     clear HX9;go_wp2_with fail;obtain⟨wz,hwz⟩:∃ wz,wz=((((((w9.setCell ⟨w.heap.size,0,none⟩ (.int .i64 x0)).setCell ⟨w.heap.size,1,none⟩ (.int .u64 x1)).setCell ⟨w.heap.size,2,none⟩ (.int .u64 x2)).setCell ⟨w.heap.size,3,none⟩ (.int .u64 x3)).setCell ⟨w.heap.size,4,none⟩ (.int .u64 x4)).setCell ⟨w.heap.size,5,none⟩ (.slice xA xl xc)):=⟨_,rfl⟩;have hz:=HZ.out;have hzk:=HZK.out;have hzr:=HZR.out;have hzs:=HZS.out;have hzt:=HZT.out;rw [<-hwz] at hz hzk hzr hzs hzt⊢;obtain⟨z0,z1,z2,z3,z4,z5⟩:=Blk.c6 hz
     refine bodyPost_ret (v:= .agg #[.int .i64 x0,.int .u64 x1,.int .u64 x2,.int .u64 x3,.int .u64 x4,.slice xA xl xc]) (by simp [results,Tryz.results147,go_sem,z0,z1,z2,z3,z4,z5]) rfl ⟨x0,x1,x2,x3,x4,xA,xl,xc,rfl,by rw [HFe.out];exact hzr,hzk,λ hy=>by
      rw [HFe.out] at hy⊢;obtain⟨n,hn⟩:=hzt hy;exact⟨n,hn.weak λ b hb=>⟨hb.1,by omega⟩⟩⟩
  . have hys:=J22 hey;have hY2:=HGO.out y hys.1 hyp;have CR:=λ w' (hr:Tq (270-op) w' g s y op)=>HROW.out g w' y hys.1 hyp hr
    have hen:¬nx s y<0/\¬nx s y=124/\¬nx s y=41:=by
     unfold enB at hey;rw [decide_eq_true_eq] at hey;exact⟨λ k=>hey (.inl k),λ k=>hey (.inr (.inl k)),λ k=>hey (.inr (.inr k))⟩
    have enil:(pk s y).toList.isEmpty=false:=(by rw [ZG7];exact decide_eq_false hen.1);have e124:((pk s y).toList== [124])=false:=(by rw [Xj2];exact beq_eq_false_iff_ne.2 (show ¬nx s y=124 from hen.2.1));have e41:((pk s y).toList== [41])=false:=(by rw [Xj2];exact beq_eq_false_iff_ne.2 (show ¬nx s y=41 from hen.2.2));obtain⟨Y2,hY2e⟩:∃ Y2,Y2=R y:=⟨_,rfl⟩;rw [<-hY2e] at CR hY2;have CR:=qh CR;have HY2e:=qh hY2e;have HEY:=qh hey;have hys1:=hys.1;have hys2:=hys.2;clear hY2e hey hys hen;go_wp2_with fail;refine(CR.out _ HX.out.rd).mono ?_;rintro e w3 ⟨v0,v1,v2,v3,v4,vA,vl,vc,rfl,hr3,hk3,ht3⟩;have hzr:gT<wr.heap.size:=Blk.lt HX.out.te;have hgl:=HX.out.gl;have hz3:wr.heap.size<=w3.heap.size:=hk3.size;have hba:Below w3.heap.size w3 (w3.alloc (.cells #[.int .i64 v0,.int .u64 v1,.int .u64 v2,.int .u64 v3,.int .u64 v4,.slice vA vl vc] 125)):=(Below.refl _ _).alloc (Nat.le_refl _) _;have hx3:=(HX.out.kept hr3 hk3).step hba;have hb3:=Blk.new w3 125 #[.int .i64 v0,.int .u64 v1,.int .u64 v2,.int .u64 v3,.int .u64 v4,.slice vA vl vc]
    have ht3t:∃ n,RxT (w3.alloc (.cells #[.int .i64 v0,.int .u64 v1,.int .u64 v2,.int .u64 v3,.int .u64 v4,.slice vA vl vc] 125)) (λ b=>w.heap.size<b/\b<w3.heap.size/\b≠gT) n t (six x0 x1 x2 x3 x4 xA xl xc):=by
     obtain⟨n,hn⟩:=HT.out hys1;have hglt:=HX.out.lt;exact⟨n,((hn.off hk3 λ b hb=>⟨hb.2.1,by have:=hb.1;omega⟩).below hba λ b hb=>Nat.lt_of_lt_of_le hb.2.1 hz3).weak λ b hb=>⟨hb.1,Nat.lt_of_lt_of_le hb.2.1 hz3,hb.2.2⟩⟩
    have ht3v:Y2.2.e=0->∃ n,RxT (w3.alloc (.cells #[.int .i64 v0,.int .u64 v1,.int .u64 v2,.int .u64 v3,.int .u64 v4,.slice vA vl vc] 125)) (λ b=>w.heap.size<b/\b<w3.heap.size/\b≠gT) n Y2.1 (six v0 v1 v2 v3 v4 vA vl vc):=λ hy=>by
     obtain⟨n,hn⟩:=ht3 hy;exact⟨n,(hn.below hba λ b hb=>hb.2).weak λ b hb=>⟨by have:=hb.1;omega,hb.2,by have:=hb.1;omega⟩⟩
    clear hr3 hk3 ht3 hba;go_upto_region 6 with fail;obtain⟨W3,hW3⟩:∃ W3,w3.alloc (.cells #[.int .i64 v0,.int .u64 v1,.int .u64 v2,.int .u64 v3,.int .u64 v4,.slice vA vl vc] 125)=W3:=⟨_,rfl⟩;have hzW:w3.heap.size<W3.heap.size:=(by rw [<-hW3];simp);obtain⟨gX,hgX⟩:∃ gX,w3.heap.size=gX:=⟨_,rfl⟩;rw [hW3] at hx3 hb3 ht3t ht3v⊢;rw [hgX] at hb3 ht3t ht3v hzW hz3⊢;have HX3:=qh hx3;have HB3:=qh hb3;have HTt:=qh ht3t;have HTv:=qh ht3v;clear hW3 hgX hx3 hb3 ht3t ht3v HX HT CR;cases b with
    |false=>
     obtain⟨hm0,hyx⟩:=hq0 rfl
     have HF2:Hid (F=lpR s R (s.size+1) Y2.1 Y2.2):=qh (by
      obtain⟨h1,h2,h3⟩:=HF0.out rfl;rw [h2,HY2e.out,<-h3];unfold rwF;rw [if_neg (by rw [Bool.not_eq_true];have:=HEY.out;rw [Bool.not_eq_true] at this;exact this)])
     have HXc:=HX3;have HBc:=HB3
     have HTc:Hid (Y2.2.e=0->∃ n,RxT W3 (InT w gT W3) n Y2.1 (six v0 v1 v2 v3 v4 vA vl vc)):=qh λ hy=>by
      obtain⟨n,hn⟩:=HTv.out hy;exact⟨n,hn.weak λ b hb=>⟨hb.1,by have:=hb.2.1;omega,hb.2.2⟩⟩
     clear hyx HF0 HF1 HY2e HEY HX3 HB3 HTt HTv hq hq0;have HX5:=qh (HXc.out.put rfl v0 v1 v2 v3 v4 vA vl vc);have hz5:=j80 W3 gT v0 v1 v2 v3 v4 vA vl vc
     have HT5:Hid (Y2.2.e=0->∃ n,RxT ((((((W3.setCell ⟨gT,0,none⟩ (.int .i64 v0)).setCell ⟨gT,1,none⟩ (.int .u64 v1)).setCell ⟨gT,2,none⟩ (.int .u64 v2)).setCell ⟨gT,3,none⟩ (.int .u64 v3)).setCell ⟨gT,4,none⟩ (.int .u64 v4)).setCell ⟨gT,5,none⟩ (.slice vA vl vc)) (InT w gT ((((((W3.setCell ⟨gT,0,none⟩ (.int .i64 v0)).setCell ⟨gT,1,none⟩ (.int .u64 v1)).setCell ⟨gT,2,none⟩ (.int .u64 v2)).setCell ⟨gT,3,none⟩ (.int .u64 v3)).setCell ⟨gT,4,none⟩ (.int .u64 v4)).setCell ⟨gT,5,none⟩ (.slice vA vl vc))) n Y2.1 (six v0 v1 v2 v3 v4 vA vl vc)):=qh λ hy=>by
      obtain⟨n,hn⟩:=HTc.out hy;exact⟨n,(hn.put6 (λ k=>k.2.2 rfl) v0 v1 v2 v3 v4 vA vl vc).weak λ b hb=>⟨hb.1,by rw [hz5];exact hb.2.1,hb.2.2⟩⟩
     obtain⟨s0,s1,s2,s3,s4,s5⟩:=Blk.c6 HBc.out;obtain⟨u0,u1,u2,u3,u4,u5⟩:=Blk.c6 HXc.out.te;obtain⟨fu0,fu1,fu2,fu3,fu4,fu5⟩:=Blk.f6 HXc.out.te;clear hz5;go_upto_region 4 with fail;obtain⟨W5,hW5⟩:∃ W5,((((((W3.setCell ⟨gT,0,none⟩ (.int .i64 v0)).setCell ⟨gT,1,none⟩ (.int .u64 v1)).setCell ⟨gT,2,none⟩ (.int .u64 v2)).setCell ⟨gT,3,none⟩ (.int .u64 v3)).setCell ⟨gT,4,none⟩ (.int .u64 v4)).setCell ⟨gT,5,none⟩ (.slice vA vl vc))=W5:=⟨_,rfl⟩;rw [hW5] at HX5 HT5⊢;clear hW5 HXc HTc HBc s0 s1 s2 s3 s4 s5 u0 u1 u2 u3 u4 u5 fu0 fu1 fu2 fu3 fu4 fu5;have CP5:=qh (YF5 s hs (270-op) Y2.2 op g W5 HX5.out.rd);go_wp2_with fail;refine CP5.out.mono ?_;rintro e w6 ⟨rfl,qq,hqq⟩;have hbq:Below W5.heap.size W5 w6:=(by rw [hqq];exact below_drewN (Below.refl _ _) qq);have HX6:=qh (HX5.out.step hbq)
     have HT6:Hid (Y2.2.e=0->∃ n,RxT w6 (InT w gT w6) n Y2.1 (six v0 v1 v2 v3 v4 vA vl vc)):=qh λ hy=>by
      obtain⟨n,hn⟩:=HT5.out hy;exact⟨n,(hn.below hbq λ b hb=>hb.2.1).weak λ b hb=>⟨hb.1,Nat.lt_of_lt_of_le hb.2.1 hbq.size,hb.2.2⟩⟩
     clear hqq hbq CP5 HX5 HT5;go_wp2_with fail
     go_roundg (s.size+1)
     case measure=>rw [HG.out];omega
     case rel=>exact⟨(s.size+1),Y2.1,Y2.2,v0,v1,v2,v3,v4,vA,vl,vc,true,rfl,rfl,rfl,hY2.hi,(λ _ _=>by omega),(λ k=>by cases k),qh (λ k=>by cases k),qh (λ _=>HF2.out),HX6,HT6⟩
    |true=>
     obtain⟨m,rfl⟩:∃ m',m=m'+1:=⟨m-1,by have:=hq rfl hys1;omega⟩;have hyq:=hq rfl hys1
     have HF2:Hid (F=lpR s R m (jG1 4 t Y2.1) Y2.2):=qh (by
      rw [HF1.out rfl,HY2e.out];exact K50 HEY.out)
     obtain⟨s0,s1,s2,s3,s4,s5⟩:=Blk.c6 HB3.out;obtain⟨u0,u1,u2,u3,u4,u5⟩:=Blk.c6 HX3.out.te;clear HF0 HF1 HY2e HEY hq hq0;go_wp2_with fail;refine(Ym3 4 x0 x1 x2 x3 x4 v0 v1 v2 v3 v4 xA vA xl xc vl vc W3).mono ?_;rintro e w4 ⟨N,rfl,hc4,hN1,hN2,hb4⟩;have hz4:W3.heap.size<=w4.heap.size:=hb4.size;have hx4:=HX3.out.step hb4;have hb4x:=HB3.out.below hb4 HB3.out.lt;have HXc:=qh (hx4.other (show w.heap.size<gX by omega) (by omega) 4 0 0 0 0 (some ⟨N,0,none⟩) 2 2);have HBc:=qh (J42 (cs:= [.int .i64 v0,.int .u64 v1,.int .u64 v2,.int .u64 v3,.int .u64 v4,.slice vA vl vc]) hb4x rfl 4 0 0 0 0 (some ⟨N,0,none⟩) 2 2);have hzx:=j80 w4 gX 4 0 0 0 0 (some ⟨N,0,none⟩) 2 2
     have HTc:Hid (Y2.2.e=0->∃ n,RxT ((((((w4.setCell ⟨gX,0,none⟩ (.int .i64 4)).setCell ⟨gX,1,none⟩ (.int .u64 0)).setCell ⟨gX,2,none⟩ (.int .u64 0)).setCell ⟨gX,3,none⟩ (.int .u64 0)).setCell ⟨gX,4,none⟩ (.int .u64 0)).setCell ⟨gX,5,none⟩ (.slice (some ⟨N,0,none⟩) 2 2)) (InT w gT ((((((w4.setCell ⟨gX,0,none⟩ (.int .i64 4)).setCell ⟨gX,1,none⟩ (.int .u64 0)).setCell ⟨gX,2,none⟩ (.int .u64 0)).setCell ⟨gX,3,none⟩ (.int .u64 0)).setCell ⟨gX,4,none⟩ (.int .u64 0)).setCell ⟨gX,5,none⟩ (.slice (some ⟨N,0,none⟩) 2 2))) n (jG1 4 t Y2.1) (six 4 0 0 0 0 (some ⟨N,0,none⟩) 2 2)):=qh λ hy=>by
      obtain⟨n1,hn1⟩:=HTt.out;obtain⟨n2,hn2⟩:=HTv.out hy;have b1:RxT w4 (λ b=>w.heap.size<b/\b<w4.heap.size/\b≠gT/\b≠gX) n1 t (six x0 x1 x2 x3 x4 xA xl xc):=(hn1.below hb4 λ b hb=>by have:=hb.2.1;omega).weak λ b hb=>⟨hb.1,by have:=hb.2.1;omega,hb.2.2,by have:=hb.2.1;omega⟩
      have b2:RxT w4 (λ b=>w.heap.size<b/\b<w4.heap.size/\b≠gT/\b≠gX) n2 Y2.1 (six v0 v1 v2 v3 v4 vA vl vc):=(hn2.below hb4 λ b hb=>by have:=hb.2.1;omega).weak λ b hb=>⟨hb.1,by have:=hb.2.1;omega,hb.2.2,by have:=hb.2.1;omega⟩
      have c:=RxT.two (b1.up (Nat.le_max_left n1 n2)) (b2.up (Nat.le_max_right n1 n2)) rfl (show w.heap.size<N/\N<w4.heap.size/\N≠gT/\N≠gX from ⟨by omega,hN2,by omega,by omega⟩) hc4 4 (by decide) (by decide);exact⟨_,(c.put6 (λ k=>k.2.2.2 rfl) 4 0 0 0 0 (some ⟨N,0,none⟩) 2 2).weak λ b hb=>⟨hb.1,by rw [hzx];exact hb.2.1,hb.2.2.1⟩⟩
     obtain⟨q0,q1,q2,q3,q4,q5⟩:=Blk.c6 hb4x;obtain⟨fq0,fq1,fq2,fq3,fq4,fq5⟩:=Blk.f6 hb4x;clear hx4 hb4x hc4 hb4 HX3 HB3 HTt HTv s0 s1 s2 s3 s4 s5 u0 u1 u2 u3 u4 u5 hzx;go_upto_region 8 with fail;obtain⟨W7,hW7⟩:∃ W7,((((((w4.setCell ⟨gX,0,none⟩ (.int .i64 4)).setCell ⟨gX,1,none⟩ (.int .u64 0)).setCell ⟨gX,2,none⟩ (.int .u64 0)).setCell ⟨gX,3,none⟩ (.int .u64 0)).setCell ⟨gX,4,none⟩ (.int .u64 0)).setCell ⟨gX,5,none⟩ (.slice (some ⟨N,0,none⟩) 2 2))=W7:=⟨_,rfl⟩;rw [hW7] at HXc HBc HTc⊢;clear hW7 q0 q1 q2 q3 q4 q5 fq0 fq1 fq2 fq3 fq4 fq5;have HX5:=qh (HXc.out.put rfl 4 0 0 0 0 (some ⟨N,0,none⟩) 2 2);have hz5:=j80 W7 gT 4 0 0 0 0 (some ⟨N,0,none⟩) 2 2
     have HT5:Hid (Y2.2.e=0->∃ n,RxT ((((((W7.setCell ⟨gT,0,none⟩ (.int .i64 4)).setCell ⟨gT,1,none⟩ (.int .u64 0)).setCell ⟨gT,2,none⟩ (.int .u64 0)).setCell ⟨gT,3,none⟩ (.int .u64 0)).setCell ⟨gT,4,none⟩ (.int .u64 0)).setCell ⟨gT,5,none⟩ (.slice (some ⟨N,0,none⟩) 2 2)) (InT w gT ((((((W7.setCell ⟨gT,0,none⟩ (.int .i64 4)).setCell ⟨gT,1,none⟩ (.int .u64 0)).setCell ⟨gT,2,none⟩ (.int .u64 0)).setCell ⟨gT,3,none⟩ (.int .u64 0)).setCell ⟨gT,4,none⟩ (.int .u64 0)).setCell ⟨gT,5,none⟩ (.slice (some ⟨N,0,none⟩) 2 2))) n (jG1 4 t Y2.1) (six 4 0 0 0 0 (some ⟨N,0,none⟩) 2 2)):=qh λ hy=>by
      obtain⟨n,hn⟩:=HTc.out hy;exact⟨n,(hn.put6 (λ k=>k.2.2 rfl) 4 0 0 0 0 (some ⟨N,0,none⟩) 2 2).weak λ b hb=>⟨hb.1,by rw [hz5];exact hb.2.1,hb.2.2⟩⟩
     obtain⟨s0,s1,s2,s3,s4,s5⟩:=Blk.c6 HBc.out;obtain⟨u0,u1,u2,u3,u4,u5⟩:=Blk.c6 HXc.out.te;obtain⟨fu0,fu1,fu2,fu3,fu4,fu5⟩:=Blk.f6 HXc.out.te;clear hz5;go_upto_region 4 with fail;obtain⟨W5,hW5⟩:∃ W5,((((((W7.setCell ⟨gT,0,none⟩ (.int .i64 4)).setCell ⟨gT,1,none⟩ (.int .u64 0)).setCell ⟨gT,2,none⟩ (.int .u64 0)).setCell ⟨gT,3,none⟩ (.int .u64 0)).setCell ⟨gT,4,none⟩ (.int .u64 0)).setCell ⟨gT,5,none⟩ (.slice (some ⟨N,0,none⟩) 2 2))=W5:=⟨_,rfl⟩;rw [hW5] at HX5 HT5⊢;clear hW5 HXc HTc HBc s0 s1 s2 s3 s4 s5 u0 u1 u2 u3 u4 u5 fu0 fu1 fu2 fu3 fu4 fu5;have CP5:=qh (YF5 s hs (270-op) Y2.2 op g W5 HX5.out.rd);go_wp2_with fail;refine CP5.out.mono ?_;rintro e w6 ⟨rfl,qq,hqq⟩;have hbq:Below W5.heap.size W5 w6:=(by rw [hqq];exact below_drewN (Below.refl _ _) qq);have HX6:=qh (HX5.out.step hbq)
     have HT6:Hid (Y2.2.e=0->∃ n,RxT w6 (InT w gT w6) n (jG1 4 t Y2.1) (six 4 0 0 0 0 (some ⟨N,0,none⟩) 2 2)):=qh λ hy=>by
      obtain⟨n,hn⟩:=HT5.out hy;exact⟨n,(hn.below hbq λ b hb=>hb.2.1).weak λ b hb=>⟨hb.1,Nat.lt_of_lt_of_le hb.2.1 hbq.size,hb.2.2⟩⟩
     clear hqq hbq CP5 HX5 HT5;go_wp2_with fail
     go_roundg m
     case measure=>rw [HG.out];omega
     case rel=>exact⟨m,(jG1 4 t Y2.1),Y2.2,4,0,0,0,0,some ⟨N,0,none⟩,2,2,true,rfl,rfl,rfl,hY2.hi,(λ _ hy=>by have:=hY2.ok hy;omega),(λ k=>by cases k),qh (λ k=>by cases k),qh (λ _=>HF2.out),HX6,HT6⟩
def ku5 (n:Nat):Nat:=if n<=82 then n else 82
theorem yO1 {a:Nat} (h:a<=82):ku5 a=a:=if_pos h
theorem JU8 {a:Nat} (h:¬a<=82):ku5 a=82:=if_neg h
theorem QE3 {a b:Nat} (h:81<ku5 a) (h2:a<=b):ku5 b=ku5 a:=by
 by_cases ha:a<=82
 . rw [yO1 ha] at h⊢;by_cases hb:b<=82
   . rw [yO1 hb];omega
   . rw [JU8 hb];omega
 . rw [JU8 ha,JU8 (by omega)]
theorem kz0 {a:Nat} (c:Nat) (h:¬81<ku5 a):ku5 (ku5 a+c)=ku5 (a+c):=by
 by_cases ha:a<=82
 . rw [yO1 ha]
 . rw [JU8 ha] at h;omega
theorem Ke3 (a:Nat):ku5 a<=80<->a<=80:=by
 unfold ku5;split<;>omega
def jZ7 (n:Nat) (r:Rx):Nat:=ku5 (n+szR r)
def WtOk (F:FuncId) (d:Nat):Prop:=∀ (r:Rx) (cs:List Value) (n B:Nat) (w:World),RxC w B d r cs->B<=w.heap.size->n<=81->Calls Tryz.prog F #[.agg cs.toArray,.int .i64 (n:Int)] w λ e w'=>e= .returned (.int .i64 (jZ7 n r:Int))/\Below w.heap.size w w'
set_option maxRecDepth 100000 in
set_option maxHeartbeats 4000000 in
theorem YC9 (d:Nat) (ih:WtOk 192 d):WtOk 192 (d+1):=by
 rintro⟨k,s,ks⟩ cs n B w ⟨hs,hk,A,cap,e,hlc,hcap,hblk,hel⟩ hB hn;have HI:=qh ih;clear ih;subst e;simp only [Rx.k,Rx.s,Rx.ks] at hs hk hlc hcap hblk hel⊢;have ecs:(ZF1 k s A ks.length cap).toArray=#[.int .i64 k,.int .u64 (s.a:Int),.int .u64 (s.b:Int),.int .u64 (s.c:Int),.int .u64 (s.d:Int),.slice A ks.length cap]:=rfl;rw [ecs];clear ecs;obtain⟨W,hW⟩:∃ W,w.alloc (.cells #[.int .i64 k,.int .u64 (s.a:Int),.int .u64 (s.b:Int),.int .u64 (s.c:Int),.int .u64 (s.d:Int),.slice A ks.length cap] 125)=W:=⟨_,rfl⟩;have HK:Hid (Blk W w.heap.size 125 #[.int .i64 k,.int .u64 (s.a:Int),.int .u64 (s.b:Int),.int .u64 (s.c:Int),.int .u64 (s.d:Int),.slice A ks.length cap]):=qh (by rw [<-hW];exact Blk.new w _ _);have HWB:Hid (Below w.heap.size w W):=qh (by rw [<-hW];exact(Below.refl _ _).alloc (Nat.le_refl _) _);have hS:jZ7 n (.mk k s ks)=ku5 (n+1+szL ks):=by unfold jZ7;rw [szR];congr 1;omega
 obtain⟨R,hR⟩:∃ R,R=jZ7 n (.mk k s ks):=⟨_,rfl⟩;rw [<-hR] at hS⊢;have HS:=qh hS;have hw1:IntKind.i64.wrap ((n:Int)+1)=(n:Int)+1:=IntWalk.i64_in _ (by omega);clear hS hR;go_enter Tryz.func192,Tryz.ntmps192;go_wp2_with fail;go_loopw [1,5] (λ a i wr=>∃ j m:Nat,i= .int .i64 (j:Int)/\a= .int .i64 (m:Int)/\j<=ks.length/\m=ku5 (n+1+szL (ks.take j))/\Hid (Below w.heap.size w wr)/\Hid (Blk wr w.heap.size 125 #[.int .i64 k,.int .u64 (s.a:Int),.int .u64 (s.b:Int),.int .u64 (s.c:Int),.int .u64 (s.d:Int),.slice A ks.length cap])) (λ _ i _=>ks.length-(intOf i).toNat)
 case atStart=>exact⟨0,n+1,rfl,rfl,Nat.zero_le _,by rw [List.take_zero,szL];unfold ku5;rw [if_pos (by omega)],HWB,HK⟩
 case round=>
  obtain⟨j,m,rfl,rfl,hj,hm,HB,HKr⟩:=hrel;have hle:=Q85 ks j;have c5:=Blk.e5 HKr.out;by_cases hlt:j<ks.length
  . have d1:decide ((j:Int)<(ks.length:Int))=true:=decide_eq_true (by omega);obtain⟨ad,cs',rfl,hc,hr⟩:=hel j ks[j] (List.getElem?_eq_getElem hlt);obtain⟨_,e',hbk⟩:=hblk (by omega);injection e' with e';subst e';have HR:=qh (hr.below (HB.out.mono hB));obtain⟨a0,a1,a2,a3,a4,A5,l5,cap5,rfl⟩:=hr.six;obtain⟨d0,d1,d2,d3,d4,d5⟩:=XW8 (w':=wr) hc hbk (HB.out.mono hB);have htk:=yG5 hlt;have hbz:B<=wr.heap.size:=Nat.le_trans hB HB.out.size;by_cases h81:81<m
    . have hR81:R=m:=(by rw [HS.out,hm];rw [hm] at h81;exact QE3 h81 (by omega));have HR81:=qh hR81;have i81:decide ((m:Int)<=81)=false:=decide_eq_false (by omega);clear hm hle htk h81 hR81 hel hc hr;go_wp2_with fail;go_ret;exact⟨by rw [HR81.out];rfl,HB.out⟩
    . have i81:decide ((m:Int)<=81)=true:=decide_eq_true (by omega);have hm2:jZ7 m ks[j]=ku5 (n+1+szL (ks.take (j+1))):=(by unfold jZ7;rw [hm] at h81⊢;rw [kz0 _ h81,htk];congr 1;omega);have CI:=HI.out ks[j] _ m B wr HR.out hbz (by omega);obtain⟨M,hM⟩:∃ M,M=jZ7 m ks[j]:=⟨_,rfl⟩;rw [<-hM] at CI hm2;have CI:=qh CI;have HM2:=qh hm2;clear hm hle htk h81 hm2 hM hel hc hr;go_wp2_with fail;refine CI.out.mono ?_;rintro e w2 ⟨rfl,hb2⟩;have HB2:=qh (HB.out.trans (hb2.mono HB.out.size));have HK2:=qh (HKr.out.below hb2 HKr.out.lt);clear hb2;go_wp2_with fail;go_roundw
      case rel=>exact⟨j+1,M,by go_num,rfl,by omega,HM2.out,HB2,HK2⟩
      case measure=>simp [intOf];omega
  . obtain rfl:j=ks.length:=(by omega);have HR81:Hid (R=m):=qh (by rw [HS.out,hm,List.take_length]);clear hm hle hel;go_wp2_with fail;go_ret;exact⟨by rw [HR81.out];rfl,HB.out⟩
theorem Za5:∀ d,WtOk 192 d
 |0=>λ r cs n B w h=>h.elim
 |d+1=>YC9 d (Za5 d)
end Go.Proofs.YtngepacmgabmaaaGreatDoor
