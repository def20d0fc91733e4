/- Walks: (*rex.reader).digit, char. (print; Walks: rex.not, rex.bytes; the closure o .. -/
import Derived.Test.YtngepacmgabmaaaGreatDoorGj
import Derived.Deep.CutBlock
import Derived.Laws.BitsAllLaws
namespace Go.Proofs.YtngepacmgabmaaaGreatDoor
open Go.RowKit
set_option linter.unusedVariables false
set_option linter.unusedSimpArgs false
theorem hx_lo (l:List UInt8) (b:Int): -1<=ixb l b/\ixb l b<l.length:=by
 unfold ixb;have h1:=Lib.indexByte_ge l b.toNat.toUInt8
 have h2:Lib.indexByte l b.toNat.toUInt8<l.length:=by
  by_cases h:Lib.indexByte l b.toNat.toUInt8= -1
  . omega
  . obtain⟨o,ho⟩:∃ o:Nat,Lib.indexByte l b.toNat.toUInt8=o:=⟨(Lib.indexByte l b.toNat.toUInt8).toNat,by omega⟩;have h3:=(Lib.indexByte_some ho).1;have:=(List.getElem?_eq_some_iff.1 h3).1;omega
 exact⟨h1,h2⟩
section
variable (s:ByteArray) (hs:s.size<=200) (x:Sx) (op:Int) (g:Nat) (w:World)
include hs
set_option maxHeartbeats 1000000 in
theorem ZP4 (hp:x.p<=s.size) (hR:Rd w g s x op):
 Calls Tryz.prog 229 #[.pointer (some ⟨g,0,none⟩)] w λ e w'=>e= .returned (.int .i64 (dg s x).1)/\Rd w' g s (dg s x).2 op/\KeptOff w w' g:=by
 have CN:=qh (xq2 s x op g w hp hR);have H:=qh hR;have hlo:=Kj4 s x;have CI:=qh λ w'=>qP2 ⟨#[48,49,50,51,52,53,54,55,56,57,97,98,99,100,101,102]⟩ hxL rfl (nx s x) w'
 have hI:ixb hxL (nx s x)=hxI (nx s x):=rfl;rw [hI] at CI;have hdg:dg s x=if nx s x<0 then (0,x.fl 3) else if hxI (nx s x)<0 then (0,x.fl 3) else (hxI (nx s x),x.up):=rfl
 have HD:=qh hdg;clear hR hI hdg;by_cases h1:nx s x<0
 . have HX:Hid (dg s x=(0,x.fl 3)):=qh (HD.out.trans (if_pos h1));go_enter Tryz.func229,Tryz.ntmps229;go_wp2_with fail;refine CN.out.mono ?_;rintro e w1 ⟨rfl,q,hq⟩;have hR1:Rd w1 g s x op:=(by rw [hq];exact H.out.drewN q);have HK1:Hid (KeptOff w w1 g):=qh (by rw [hq];exact KeptOff.refl.drewN q);have H1:=qh hR1;clear hq hR1;go_wp2_with fail;refine(z88 s x op g _ 3 H1.out).mono ?_;rintro e w9 ⟨rfl,hR9,hk9⟩;have HR9:=qh hR9;have HK9:=qh (HK1.out.tr hk9);clear hR9 hk9;go_wp2_with fail;go_ret;exact⟨by rw [HX.out];rfl,by rw [HX.out];exact HR9.out,HK9.out⟩
 . have hps:=Jo0 (s:=s) (x:=x) (by omega);have hu:IntKind.u8.wrap (nx s x)=nx s x:=IntWalk.u8_in _ ⟨by omega,by omega⟩;by_cases h2:hxI (nx s x)<0
   . have HX:Hid (dg s x=(0,x.fl 3)):=qh (by rw [HD.out,if_neg h1,if_pos h2]);go_enter Tryz.func229,Tryz.ntmps229;go_wp2_with fail;refine CN.out.mono ?_;rintro e w1 ⟨rfl,q,hq⟩;have hR1:Rd w1 g s x op:=(by rw [hq];exact H.out.drewN q);have HK1:Hid (KeptOff w w1 g):=qh (by rw [hq];exact KeptOff.refl.drewN q);have H1:=qh hR1;clear hq hR1;go_wp2_with fail;refine(CI.out _).mono ?_;rintro e w' ⟨rfl,rfl⟩;go_wp2_with fail;refine(z88 s x op g _ 3 H1.out).mono ?_;rintro e w9 ⟨rfl,hR9,hk9⟩;have HR9:=qh hR9;have HK9:=qh (HK1.out.tr hk9);clear hR9 hk9;go_wp2_with fail;go_ret;exact⟨by rw [HX.out];rfl,by rw [HX.out];exact HR9.out,HK9.out⟩
   . have HX:Hid (dg s x=(hxI (nx s x),x.up)):=qh (by rw [HD.out,if_neg h1,if_neg h2]);go_enter Tryz.func229,Tryz.ntmps229;go_wp2_with fail;refine CN.out.mono ?_;rintro e w1 ⟨rfl,q,hq⟩;have hR1:Rd w1 g s x op:=(by rw [hq];exact H.out.drewN q);have HK1:Hid (KeptOff w w1 g):=qh (by rw [hq];exact KeptOff.refl.drewN q);have H1:=qh hR1;clear hq hR1;go_wp2_with fail;refine(CI.out _).mono ?_;rintro e w' ⟨rfl,rfl⟩;obtain⟨c0,c1,c2,c3⟩:=H1.out.facts;have hf:=Blk.frozen H1.out 1;have hw:IntKind.i64.wrap ((x.p:Int)+1)=(x.p:Int)+1:=IntWalk.i64_in _ (by omega);go_wp2_with fail;go_ret;exact⟨by rw [HX.out];rfl,by rw [HX.out];exact H1.out.setP (x.p+1),HK1.out.set_ 1 _⟩
omit hs in
theorem Zp4 (s:ByteArray) (x:Sx):0<=(dg s x).1/\(dg s x).1<=15:=by
 unfold dg;split
 . dsimp only;omega
 . split
   . dsimp only;omega
   . have h:=hx_lo hxL (nx s x);have e:ixb hxL (nx s x)=hxI (nx s x):=rfl;have l:hxL.length=16:=rfl;rw [e,l] at h;dsimp only;omega
set_option maxRecDepth 100000 in
set_option maxHeartbeats 4000000 in
theorem Yk1 (hp:x.p<=s.size) (hR:Rd w g s x op):
 Calls Tryz.prog 218 #[.pointer (some ⟨g,0,none⟩)] w λ e w'=>e= .returned (.int .i64 (ch s x).1)/\Rd w' g s (ch s x).2 op/\KeptOff w w' g:=by
 have CN:=qh (xq2 s x op g w hp hR);have H:=qh hR;have hlo:=Kj4 s x;have CI:=qh λ b w'=>qP2 ⟨#[40,41,91,93,124,42,43,63,46,94,36,45,92]⟩ sgLp rfl b w'
 clear hR;by_cases h92:nx s x=92
 . have hch:ch s x=if nx s x.up=110 then (10,x.up.up) else if nx s x.up=116 then (9,x.up.up) else if nx s x.up=114 then (13,x.up.up) else if nx s x.up=120 then ((dg s x.up.up).1*16+(dg s (dg s x.up.up).2).1,(dg s (dg s x.up.up).2).2) else if 0<=nx s x.up/\sgB (nx s x.up)=true then (nx s x.up,x.up.up) else (0,x.up.fl 3):=by unfold ch;rw [if_pos h92]
   have hg1:=yt8 (s:=s) (x:=x) (by omega);obtain⟨y,hy⟩:∃ y,y=x.up:=⟨_,rfl⟩;rw [<-hy] at hch hg1;have hyp:y.p<=s.size:=hg1.hi;have HY:Hid ((⟨x.p+1,x.e⟩:Sx)=y):=qh hy.symm;have HD:=qh hch;rw [h92] at CN;have hxp:x.p<=200:=(by omega);have CN2:=qh λ w' hR=>xq2 s y op g w' hyp hR
   have hlo2:=Kj4 s y;clear hch hy h92 hg1;by_cases h110:nx s y=110
   . have HX:Hid (ch s x=(10,y.up)):=qh (by rw [HD.out,if_pos h110]);have hys:=(Jo0 (s:=s) (x:=y) (by omega)).2;rw [h110] at CN2;clear h110;go_enter Tryz.func218,Tryz.ntmps218;go_wp2_with fail;refine CN.out.mono ?_;rintro e w1 ⟨rfl,q,hq⟩;have hR1:Rd w1 g s x op:=(by rw [hq];exact H.out.drewN q);have HK1:Hid (KeptOff w w1 g):=qh (by rw [hq];exact KeptOff.refl.drewN q);have H1:=qh hR1;clear hq hR1;obtain⟨c0,c1,c2,c3⟩:=H1.out.facts;have hf:=Blk.frozen H1.out 1;have hw:IntKind.i64.wrap ((x.p:Int)+1)=(x.p:Int)+1:=IntWalk.i64_in _ (by omega);have hR2:Rd (w1.setCell ⟨g,1,none⟩ (.int .i64 ((x.p:Int)+1))) g s y op:=(by rw [<-HY.out];exact H1.out.setP (x.p+1));have hK2:KeptOff w (w1.setCell ⟨g,1,none⟩ (.int .i64 ((x.p:Int)+1))) g:=HK1.out.set_ 1 _;go_upto_region 9 with fail;obtain⟨w2,hw2⟩:∃ w2,w1.setCell ⟨g,1,none⟩ (.int .i64 ((x.p:Int)+1))=w2:=⟨_,rfl⟩;rw [hw2] at hR2 hK2⊢;have H2:=qh hR2;have HK2:=qh hK2;clear hw2 hR2 hK2 c0 c1 c2 c3 hf hw;go_wp2_with fail;refine(CN2.out _ H2.out).mono ?_;rintro e w3 ⟨rfl,q3,hq3⟩;have H3:Hid (Rd w3 g s y op):=qh (by rw [hq3];exact H2.out.drewN q3);have HK3:Hid (KeptOff w w3 g):=qh (by rw [hq3];exact HK2.out.drewN q3);clear hq3;obtain⟨c0,c1,c2,c3⟩:=H3.out.facts;have hf:=Blk.frozen H3.out 1;have hw:IntKind.i64.wrap ((y.p:Int)+1)=(y.p:Int)+1:=IntWalk.i64_in _ (by omega);go_wp2_with fail;go_ret;exact⟨by rw [HX.out];rfl,by rw [HX.out];exact H3.out.setP (y.p+1),HK3.out.set_ 1 _⟩
   . have f110:(nx s y==110)=false:=(by rw [beq_eq_false_iff_ne];exact h110);by_cases h116:nx s y=116
     . have HX:Hid (ch s x=(9,y.up)):=qh (by rw [HD.out,if_neg h110,if_pos h116]);have hys:=(Jo0 (s:=s) (x:=y) (by omega)).2;rw [h116] at CN2;clear h116;go_enter Tryz.func218,Tryz.ntmps218;go_wp2_with fail;refine CN.out.mono ?_;rintro e w1 ⟨rfl,q,hq⟩;have hR1:Rd w1 g s x op:=(by rw [hq];exact H.out.drewN q);have HK1:Hid (KeptOff w w1 g):=qh (by rw [hq];exact KeptOff.refl.drewN q);have H1:=qh hR1;clear hq hR1;obtain⟨c0,c1,c2,c3⟩:=H1.out.facts;have hf:=Blk.frozen H1.out 1;have hw:IntKind.i64.wrap ((x.p:Int)+1)=(x.p:Int)+1:=IntWalk.i64_in _ (by omega);have hR2:Rd (w1.setCell ⟨g,1,none⟩ (.int .i64 ((x.p:Int)+1))) g s y op:=(by rw [<-HY.out];exact H1.out.setP (x.p+1));have hK2:KeptOff w (w1.setCell ⟨g,1,none⟩ (.int .i64 ((x.p:Int)+1))) g:=HK1.out.set_ 1 _;go_upto_region 9 with fail;obtain⟨w2,hw2⟩:∃ w2,w1.setCell ⟨g,1,none⟩ (.int .i64 ((x.p:Int)+1))=w2:=⟨_,rfl⟩;rw [hw2] at hR2 hK2⊢;have H2:=qh hR2;have HK2:=qh hK2;clear hw2 hR2 hK2 c0 c1 c2 c3 hf hw;go_wp2_with fail;refine(CN2.out _ H2.out).mono ?_;rintro e w3 ⟨rfl,q3,hq3⟩;have H3:Hid (Rd w3 g s y op):=qh (by rw [hq3];exact H2.out.drewN q3);have HK3:Hid (KeptOff w w3 g):=qh (by rw [hq3];exact HK2.out.drewN q3);clear hq3;obtain⟨c0,c1,c2,c3⟩:=H3.out.facts;have hf:=Blk.frozen H3.out 1;have hw:IntKind.i64.wrap ((y.p:Int)+1)=(y.p:Int)+1:=IntWalk.i64_in _ (by omega);go_wp2_with fail;go_ret;exact⟨by rw [HX.out];rfl,by rw [HX.out];exact H3.out.setP (y.p+1),HK3.out.set_ 1 _⟩
     . have f116:(nx s y==116)=false:=(by rw [beq_eq_false_iff_ne];exact h116);by_cases h114:nx s y=114
       . have HX:Hid (ch s x=(13,y.up)):=qh (by rw [HD.out,if_neg h110,if_neg h116,if_pos h114]);have hys:=(Jo0 (s:=s) (x:=y) (by omega)).2;rw [h114] at CN2;clear h114;go_enter Tryz.func218,Tryz.ntmps218;go_wp2_with fail;refine CN.out.mono ?_;rintro e w1 ⟨rfl,q,hq⟩;have hR1:Rd w1 g s x op:=(by rw [hq];exact H.out.drewN q);have HK1:Hid (KeptOff w w1 g):=qh (by rw [hq];exact KeptOff.refl.drewN q);have H1:=qh hR1;clear hq hR1;obtain⟨c0,c1,c2,c3⟩:=H1.out.facts;have hf:=Blk.frozen H1.out 1;have hw:IntKind.i64.wrap ((x.p:Int)+1)=(x.p:Int)+1:=IntWalk.i64_in _ (by omega);have hR2:Rd (w1.setCell ⟨g,1,none⟩ (.int .i64 ((x.p:Int)+1))) g s y op:=(by rw [<-HY.out];exact H1.out.setP (x.p+1));have hK2:KeptOff w (w1.setCell ⟨g,1,none⟩ (.int .i64 ((x.p:Int)+1))) g:=HK1.out.set_ 1 _;go_upto_region 9 with fail;obtain⟨w2,hw2⟩:∃ w2,w1.setCell ⟨g,1,none⟩ (.int .i64 ((x.p:Int)+1))=w2:=⟨_,rfl⟩;rw [hw2] at hR2 hK2⊢;have H2:=qh hR2;have HK2:=qh hK2;clear hw2 hR2 hK2 c0 c1 c2 c3 hf hw;go_wp2_with fail;refine(CN2.out _ H2.out).mono ?_;rintro e w3 ⟨rfl,q3,hq3⟩;have H3:Hid (Rd w3 g s y op):=qh (by rw [hq3];exact H2.out.drewN q3);have HK3:Hid (KeptOff w w3 g):=qh (by rw [hq3];exact HK2.out.drewN q3);clear hq3;obtain⟨c0,c1,c2,c3⟩:=H3.out.facts;have hf:=Blk.frozen H3.out 1;have hw:IntKind.i64.wrap ((y.p:Int)+1)=(y.p:Int)+1:=IntWalk.i64_in _ (by omega);go_wp2_with fail;go_ret;exact⟨by rw [HX.out];rfl,by rw [HX.out];exact H3.out.setP (y.p+1),HK3.out.set_ 1 _⟩
       . have f114:(nx s y==114)=false:=(by rw [beq_eq_false_iff_ne];exact h114);by_cases h120:nx s y=120
         . have HX:Hid (ch s x=((dg s y.up).1*16+(dg s (dg s y.up).2).1,(dg s (dg s y.up).2).2)):=qh (by rw [HD.out,if_neg h110,if_neg h116,if_neg h114,if_pos h120]);have hg2:=yt8 (s:=s) (x:=y) (by omega);have hg3:=kW0 s y.up hg2.hi;have CD1:=qh λ w' hR=>ZP4 s hs y.up op g w' hg2.hi hR
           have CD2:=qh λ w' hR=>ZP4 s hs (dg s y.up).2 op g w' hg3.hi hR
           have hd1:=Zp4 s y.up;have hd2:=Zp4 s (dg s y.up).2;have hw1:IntKind.i64.wrap ((dg s y.up).1*16)=(dg s y.up).1*16:=IntWalk.i64_in _ (by omega);have hw2':IntKind.i64.wrap ((dg s y.up).1*16+(dg s (dg s y.up).2).1)=(dg s y.up).1*16+(dg s (dg s y.up).2).1:=IntWalk.i64_in _ (by omega);have hys:y.p<=200:=(by omega);rw [h120] at CN2;clear h120 hg2 hg3;go_enter Tryz.func218,Tryz.ntmps218;go_wp2_with fail;refine CN.out.mono ?_;rintro e w1 ⟨rfl,q,hq⟩;have hR1:Rd w1 g s x op:=(by rw [hq];exact H.out.drewN q);have HK1:Hid (KeptOff w w1 g):=qh (by rw [hq];exact KeptOff.refl.drewN q);have H1:=qh hR1;clear hq hR1;obtain⟨c0,c1,c2,c3⟩:=H1.out.facts;have hf:=Blk.frozen H1.out 1;have hw:IntKind.i64.wrap ((x.p:Int)+1)=(x.p:Int)+1:=IntWalk.i64_in _ (by omega);have hR2:Rd (w1.setCell ⟨g,1,none⟩ (.int .i64 ((x.p:Int)+1))) g s y op:=(by rw [<-HY.out];exact H1.out.setP (x.p+1));have hK2:KeptOff w (w1.setCell ⟨g,1,none⟩ (.int .i64 ((x.p:Int)+1))) g:=HK1.out.set_ 1 _;go_upto_region 9 with fail;obtain⟨w2,hw2⟩:∃ w2,w1.setCell ⟨g,1,none⟩ (.int .i64 ((x.p:Int)+1))=w2:=⟨_,rfl⟩;rw [hw2] at hR2 hK2⊢;have H2:=qh hR2;have HK2:=qh hK2;clear hw2 hR2 hK2 c0 c1 c2 c3 hf hw;go_wp2_with fail;refine(CN2.out _ H2.out).mono ?_;rintro e w3 ⟨rfl,q3,hq3⟩;have H3:Hid (Rd w3 g s y op):=qh (by rw [hq3];exact H2.out.drewN q3);have HK3:Hid (KeptOff w w3 g):=qh (by rw [hq3];exact HK2.out.drewN q3);clear hq3;obtain⟨c0,c1,c2,c3⟩:=H3.out.facts;have hf:=Blk.frozen H3.out 1;have hw:IntKind.i64.wrap ((y.p:Int)+1)=(y.p:Int)+1:=IntWalk.i64_in _ (by omega);have H4:Hid (Rd (w3.setCell ⟨g,1,none⟩ (.int .i64 ((y.p:Int)+1))) g s y.up op):=qh (H3.out.setP (y.p+1));have HK4:Hid (KeptOff w (w3.setCell ⟨g,1,none⟩ (.int .i64 ((y.p:Int)+1))) g):=qh (HK3.out.set_ 1 _);go_wp2_with fail;refine(CD1.out _ H4.out).mono ?_;rintro e w5 ⟨rfl,hR5,hk5⟩;have H5:=qh hR5;have HK5:=qh (HK4.out.tr hk5);clear hR5 hk5;go_wp2_with fail;refine(CD2.out _ H5.out).mono ?_
           rintro e w6 ⟨rfl,hR6,hk6⟩;have H6:=qh hR6;have HK6:=qh (HK5.out.tr hk6);clear hR6 hk6;go_wp2_with fail;go_ret;exact⟨by rw [HX.out];rfl,by rw [HX.out];exact H6.out,HK6.out⟩
         . have f120:(nx s y==120)=false:=(by rw [beq_eq_false_iff_ne];exact h120);by_cases h0:0<=nx s y
           . have hu:IntKind.u8.wrap (nx s y)=nx s y:=IntWalk.u8_in _ ⟨by omega,by omega⟩;have hys:=(Jo0 (s:=s) (x:=y) h0).2;have CJ:=CI.out (nx s y);obtain⟨J,hJ⟩:∃ J,J=ixb sgLp (nx s y):=⟨_,rfl⟩;rw [<-hJ] at CJ;have CJ:=qh CJ;have hsg:sgB (nx s y)=decide (0<=J):=(by rw [hJ];rfl);clear hJ;by_cases hj:0<=J
             . have HX:Hid (ch s x=(nx s y,y.up)):=qh (by rw [HD.out,if_neg h110,if_neg h116,if_neg h114,if_neg h120,if_pos ⟨h0,by rw [hsg];exact decide_eq_true hj⟩]);clear hsg;go_enter Tryz.func218,Tryz.ntmps218;go_wp2_with fail;refine CN.out.mono ?_;rintro e w1 ⟨rfl,q,hq⟩;have hR1:Rd w1 g s x op:=(by rw [hq];exact H.out.drewN q);have HK1:Hid (KeptOff w w1 g):=qh (by rw [hq];exact KeptOff.refl.drewN q);have H1:=qh hR1;clear hq hR1;obtain⟨c0,c1,c2,c3⟩:=H1.out.facts;have hf:=Blk.frozen H1.out 1;have hw:IntKind.i64.wrap ((x.p:Int)+1)=(x.p:Int)+1:=IntWalk.i64_in _ (by omega);have hR2:Rd (w1.setCell ⟨g,1,none⟩ (.int .i64 ((x.p:Int)+1))) g s y op:=(by rw [<-HY.out];exact H1.out.setP (x.p+1));have hK2:KeptOff w (w1.setCell ⟨g,1,none⟩ (.int .i64 ((x.p:Int)+1))) g:=HK1.out.set_ 1 _;go_upto_region 9 with fail;obtain⟨w2,hw2⟩:∃ w2,w1.setCell ⟨g,1,none⟩ (.int .i64 ((x.p:Int)+1))=w2:=⟨_,rfl⟩;rw [hw2] at hR2 hK2⊢;have H2:=qh hR2;have HK2:=qh hK2;clear hw2 hR2 hK2 c0 c1 c2 c3 hf hw;go_wp2_with fail;refine(CN2.out _ H2.out).mono ?_;rintro e w3 ⟨rfl,q3,hq3⟩;have H3:Hid (Rd w3 g s y op):=qh (by rw [hq3];exact H2.out.drewN q3);have HK3:Hid (KeptOff w w3 g):=qh (by rw [hq3];exact HK2.out.drewN q3);clear hq3;go_wp2_with fail;refine(CJ.out _).mono ?_;rintro e w' ⟨rfl,rfl⟩;obtain⟨c0,c1,c2,c3⟩:=H3.out.facts;have hf:=Blk.frozen H3.out 1;have hw:IntKind.i64.wrap ((y.p:Int)+1)=(y.p:Int)+1:=IntWalk.i64_in _ (by omega);go_wp2_with fail;go_ret;exact⟨by rw [HX.out];rfl,by rw [HX.out];exact H3.out.setP (y.p+1),HK3.out.set_ 1 _⟩
             . have HX:Hid (ch s x=(0,y.fl 3)):=qh (by rw [HD.out,if_neg h110,if_neg h116,if_neg h114,if_neg h120,if_neg λ k=>absurd k.2 (by rw [hsg,decide_eq_false hj];decide)]);clear hsg;go_enter Tryz.func218,Tryz.ntmps218;go_wp2_with fail;refine CN.out.mono ?_;rintro e w1 ⟨rfl,q,hq⟩;have hR1:Rd w1 g s x op:=(by rw [hq];exact H.out.drewN q);have HK1:Hid (KeptOff w w1 g):=qh (by rw [hq];exact KeptOff.refl.drewN q);have H1:=qh hR1;clear hq hR1;obtain⟨c0,c1,c2,c3⟩:=H1.out.facts;have hf:=Blk.frozen H1.out 1;have hw:IntKind.i64.wrap ((x.p:Int)+1)=(x.p:Int)+1:=IntWalk.i64_in _ (by omega);have hR2:Rd (w1.setCell ⟨g,1,none⟩ (.int .i64 ((x.p:Int)+1))) g s y op:=(by rw [<-HY.out];exact H1.out.setP (x.p+1));have hK2:KeptOff w (w1.setCell ⟨g,1,none⟩ (.int .i64 ((x.p:Int)+1))) g:=HK1.out.set_ 1 _;go_upto_region 9 with fail;obtain⟨w2,hw2⟩:∃ w2,w1.setCell ⟨g,1,none⟩ (.int .i64 ((x.p:Int)+1))=w2:=⟨_,rfl⟩;rw [hw2] at hR2 hK2⊢;have H2:=qh hR2;have HK2:=qh hK2;clear hw2 hR2 hK2 c0 c1 c2 c3 hf hw;go_wp2_with fail;refine(CN2.out _ H2.out).mono ?_;rintro e w3 ⟨rfl,q3,hq3⟩;have H3:Hid (Rd w3 g s y op):=qh (by rw [hq3];exact H2.out.drewN q3);have HK3:Hid (KeptOff w w3 g):=qh (by rw [hq3];exact HK2.out.drewN q3);clear hq3;go_wp2_with fail;refine(CJ.out _).mono ?_;rintro e w' ⟨rfl,rfl⟩;go_wp2_with fail;refine(z88 s y op g _ 3 H3.out).mono ?_;rintro e w9 ⟨rfl,hR9,hk9⟩;have HR9:=qh hR9;have HK9:=qh (HK3.out.tr hk9);clear hR9 hk9;go_wp2_with fail;go_ret;exact⟨by rw [HX.out];rfl,by rw [HX.out];exact HR9.out,HK9.out⟩
           . have HX:Hid (ch s x=(0,y.fl 3)):=qh (by rw [HD.out,if_neg h110,if_neg h116,if_neg h114,if_neg h120,if_neg λ k=>h0 k.1]);go_enter Tryz.func218,Tryz.ntmps218;go_wp2_with fail;refine CN.out.mono ?_;rintro e w1 ⟨rfl,q,hq⟩;have hR1:Rd w1 g s x op:=(by rw [hq];exact H.out.drewN q);have HK1:Hid (KeptOff w w1 g):=qh (by rw [hq];exact KeptOff.refl.drewN q);have H1:=qh hR1;clear hq hR1;obtain⟨c0,c1,c2,c3⟩:=H1.out.facts;have hf:=Blk.frozen H1.out 1;have hw:IntKind.i64.wrap ((x.p:Int)+1)=(x.p:Int)+1:=IntWalk.i64_in _ (by omega);have hR2:Rd (w1.setCell ⟨g,1,none⟩ (.int .i64 ((x.p:Int)+1))) g s y op:=(by rw [<-HY.out];exact H1.out.setP (x.p+1));have hK2:KeptOff w (w1.setCell ⟨g,1,none⟩ (.int .i64 ((x.p:Int)+1))) g:=HK1.out.set_ 1 _;go_upto_region 9 with fail;obtain⟨w2,hw2⟩:∃ w2,w1.setCell ⟨g,1,none⟩ (.int .i64 ((x.p:Int)+1))=w2:=⟨_,rfl⟩;rw [hw2] at hR2 hK2⊢;have H2:=qh hR2;have HK2:=qh hK2;clear hw2 hR2 hK2 c0 c1 c2 c3 hf hw;go_wp2_with fail;refine(CN2.out _ H2.out).mono ?_;rintro e w3 ⟨rfl,q3,hq3⟩;have H3:Hid (Rd w3 g s y op):=qh (by rw [hq3];exact H2.out.drewN q3);have HK3:Hid (KeptOff w w3 g):=qh (by rw [hq3];exact HK2.out.drewN q3);clear hq3;go_wp2_with fail;refine(z88 s y op g _ 3 H3.out).mono ?_;rintro e w9 ⟨rfl,hR9,hk9⟩;have HR9:=qh hR9;have HK9:=qh (HK3.out.tr hk9);clear hR9 hk9;go_wp2_with fail;go_ret;exact⟨by rw [HX.out];rfl,by rw [HX.out];exact HR9.out,HK9.out⟩
 . have hch:ch s x=if nx s x<33\/126<nx s x\/sgB (nx s x)=true then (0,x.fl 3) else (nx s x,x.up):=by unfold ch;rw [if_neg h92]
   have f92:(nx s x !=92)=true:=(by rw [bne_iff_ne];exact h92);have f92':(nx s x==92)=false:=(by rw [beq_eq_false_iff_ne];exact h92);have HD:=qh hch;clear hch h92;by_cases h33:nx s x<33
   . have HX:Hid (ch s x=(0,x.fl 3)):=qh (by rw [HD.out,if_pos (.inl h33)]);go_enter Tryz.func218,Tryz.ntmps218;go_wp2_with fail;refine CN.out.mono ?_;rintro e w1 ⟨rfl,q,hq⟩;have hR1:Rd w1 g s x op:=(by rw [hq];exact H.out.drewN q);have HK1:Hid (KeptOff w w1 g):=qh (by rw [hq];exact KeptOff.refl.drewN q);have H1:=qh hR1;clear hq hR1;go_wp2_with fail;refine(z88 s x op g _ 3 H1.out).mono ?_;rintro e w9 ⟨rfl,hR9,hk9⟩;have HR9:=qh hR9;have HK9:=qh (HK1.out.tr hk9);clear hR9 hk9;go_wp2_with fail;go_ret;exact⟨by rw [HX.out];rfl,by rw [HX.out];exact HR9.out,HK9.out⟩
   . have hps:=(Jo0 (s:=s) (x:=x) (by omega)).2;by_cases h126:126<nx s x
     . have HX:Hid (ch s x=(0,x.fl 3)):=qh (by rw [HD.out,if_pos (.inr (.inl h126))]);go_enter Tryz.func218,Tryz.ntmps218;go_wp2_with fail;refine CN.out.mono ?_;rintro e w1 ⟨rfl,q,hq⟩;have hR1:Rd w1 g s x op:=(by rw [hq];exact H.out.drewN q);have HK1:Hid (KeptOff w w1 g):=qh (by rw [hq];exact KeptOff.refl.drewN q);have H1:=qh hR1;clear hq hR1;go_wp2_with fail;refine(z88 s x op g _ 3 H1.out).mono ?_;rintro e w9 ⟨rfl,hR9,hk9⟩;have HR9:=qh hR9;have HK9:=qh (HK1.out.tr hk9);clear hR9 hk9;go_wp2_with fail;go_ret;exact⟨by rw [HX.out];rfl,by rw [HX.out];exact HR9.out,HK9.out⟩
     . have hu:IntKind.u8.wrap (nx s x)=nx s x:=IntWalk.u8_in _ ⟨by omega,by omega⟩;have CJ:=CI.out (nx s x);obtain⟨J,hJ⟩:∃ J,J=ixb sgLp (nx s x):=⟨_,rfl⟩;rw [<-hJ] at CJ;have CJ:=qh CJ;have hsg:sgB (nx s x)=decide (0<=J):=(by rw [hJ];rfl);clear hJ;by_cases hj:0<=J
       . have HX:Hid (ch s x=(0,x.fl 3)):=qh (by rw [HD.out,if_pos (.inr (.inr (by rw [hsg];exact decide_eq_true hj)))]);clear hsg;go_enter Tryz.func218,Tryz.ntmps218;go_wp2_with fail;refine CN.out.mono ?_;rintro e w1 ⟨rfl,q,hq⟩;have hR1:Rd w1 g s x op:=(by rw [hq];exact H.out.drewN q);have HK1:Hid (KeptOff w w1 g):=qh (by rw [hq];exact KeptOff.refl.drewN q);have H1:=qh hR1;clear hq hR1;go_wp2_with fail;refine(CJ.out _).mono ?_;rintro e w' ⟨rfl,rfl⟩;go_wp2_with fail;refine(z88 s x op g _ 3 H1.out).mono ?_;rintro e w9 ⟨rfl,hR9,hk9⟩;have HR9:=qh hR9;have HK9:=qh (HK1.out.tr hk9);clear hR9 hk9;go_wp2_with fail;go_ret;exact⟨by rw [HX.out];rfl,by rw [HX.out];exact HR9.out,HK9.out⟩
       . have HX:Hid (ch s x=(nx s x,x.up)):=qh (by
          rw [HD.out,if_neg];rintro(k|k|k)
          . exact h33 k
          . exact h126 k
          . rw [hsg,decide_eq_false hj] at k;cases k)
         clear hsg;go_enter Tryz.func218,Tryz.ntmps218;go_wp2_with fail;refine CN.out.mono ?_;rintro e w1 ⟨rfl,q,hq⟩;have hR1:Rd w1 g s x op:=(by rw [hq];exact H.out.drewN q);have HK1:Hid (KeptOff w w1 g):=qh (by rw [hq];exact KeptOff.refl.drewN q);have H1:=qh hR1;clear hq hR1;go_wp2_with fail;refine(CJ.out _).mono ?_;rintro e w' ⟨rfl,rfl⟩;obtain⟨c0,c1,c2,c3⟩:=H1.out.facts;have hf:=Blk.frozen H1.out 1;have hw:IntKind.i64.wrap ((x.p:Int)+1)=(x.p:Int)+1:=IntWalk.i64_in _ (by omega);go_wp2_with fail;go_ret;exact⟨by rw [HX.out];rfl,by rw [HX.out];exact H1.out.setP (x.p+1),HK1.out.set_ 1 _⟩
end
theorem Ym2 (s:ByteArray) (x:Sx):0<=(ch s x).1/\(ch s x).1<=255:=by
 have h1:=Kj4 s x;have h2:=Kj4 s x.up;have h3:=Zp4 s x.up.up;have h4:=Zp4 s (dg s x.up.up).2;unfold ch;split
 . split
   . dsimp only;omega
   . split
     . dsimp only;omega
     . split
       . dsimp only;omega
       . split
         . dsimp only;omega
         . split
           . dsimp only;omega
           . dsimp only;omega
 . split
   . dsimp only;omega
   . dsimp only;omega
def y83 (x:Nat):Nat:=18446744073709551616-(x+1)
def Q4.not (q:Q4):Q4:=⟨y83 q.a,y83 q.b,y83 q.c,y83 q.d⟩
def JQ4 (q:Q4) (k:Nat):Q4:=⟨if 0<k then y83 q.a else q.a,if 1<k then y83 q.b else q.b,if 2<k then y83 q.c else q.c,if 3<k then y83 q.d else q.d⟩
theorem qp7 (q:Q4) {k:Nat} (hk:k<4):(JQ4 q k).word k=q.word k:=by
 obtain rfl|rfl|rfl|rfl:k=0\/k=1\/k=2\/k=3:=by omega
 all_goals rfl
theorem jk6 (q:Q4) {k:Nat} (hk:k<4):(JQ4 q k).setW k (y83 (q.word k))=JQ4 q (k+1):=by
 obtain rfl|rfl|rfl|rfl:k=0\/k=1\/k=2\/k=3:=by omega
 all_goals rfl
theorem YY8 (x:Nat):y83 x<18446744073709551616:=by unfold y83;omega
theorem xG6 {q:Q4} (h:q.ok) {b:Nat} (hb:b<256):k32 q.not b= !k32 q b:=by
 rw [QD6,QD6]
 have hw:q.not.word (b/64)=y83 (q.word (b/64)):=by
  obtain e|e|e|e:b/64=0\/b/64=1\/b/64=2\/b/64=3:=by omega
  all_goals rw [e];rfl
 rw [hw];unfold y83;have hx:=Q4.word_lt h (b/64);rw [show (18446744073709551616:Nat)=2^64 by decide,Nat.testBit_two_pow_sub_succ (by omega),decide_eq_true (by omega),Bool.true_and]
theorem Q4.not_ok (q:Q4):q.not.ok:=⟨YY8 _,YY8 _,YY8 _,YY8 _⟩
theorem x84 (x:Nat) (hx:x<18446744073709551616):bits .xor .u64 (if IntKind.u64.signed=true then-1 else IntKind.u64.max) (x:Int)=((y83 x:Nat):Int):=by
 have e:(if IntKind.u64.signed=true then (-1:Int) else IntKind.u64.max)=18446744073709551615:=by decide
 rw [e]
 have h2:(BitVec.ofInt 64 (x:Int)).toNat=x:=by
  rw [BitVec.ofInt_natCast,BitVec.toNat_ofNat];exact Nat.mod_eq_of_lt (by omega)
 have h1:BitVec.ofInt 64 18446744073709551615=BitVec.allOnes 64:=by decide
 show IntKind.u64.wrap ((BitVec.ofInt 64 18446744073709551615^^^BitVec.ofInt 64 (x:Int)).toNat:Int)=_;rw [h1,BitVec.allOnes_xor,BitVec.toNat_not,h2,IntKind.wrap_u64];unfold y83;omega
set_option maxRecDepth 100000 in
set_option maxHeartbeats 2000000 in
theorem xm4 (q:Q4) (hq:q.ok) (w:World):
 Calls Tryz.prog 214 #[Qj7 q] w λ e w'=>e= .returned (Qj7 q.not)/\Below w.heap.size w w':=by
 obtain⟨W,hW⟩:∃ W,(w.alloc (.cells #[.int .u64 (q.a:Int),.int .u64 (q.b:Int),.int .u64 (q.c:Int),.int .u64 (q.d:Int)] 122)).alloc (.cells #[.int .u64 0,.int .u64 0,.int .u64 0,.int .u64 0] 122)=W:=⟨_,rfl⟩;have hS0:SBlk W w.heap.size (JQ4 q 0):=by rw [<-hW];exact Blk.alloc (Blk.new w _ _) _
 have hR0:SBlk W (w.heap.size+1) ⟨0,0,0,0⟩:=by
  have:=SBlk.new (w.alloc (.cells #[.int .u64 (q.a:Int),.int .u64 (q.b:Int),.int .u64 (q.c:Int),.int .u64 (q.d:Int)] 122));rw [hW] at this;simpa using this
 have HB0:Hid (Below w.heap.size w W):=by show Below _ _ _;rw [<-hW];exact((Below.refl _ _).alloc (Nat.le_refl _) _).alloc (by simp) _
 have HS0:=qh hS0;have HR0:=qh hR0;clear hS0 hR0;unfold Qj7;go_enter Tryz.func214,Tryz.ntmps214;go_wp2_with fail;go_loopw [4] (λ u wr=>∃ k:Nat,u= .int .i64 (k:Int)/\k<=4/\SBlk wr w.heap.size (JQ4 q k)/\SBlk wr (w.heap.size+1) ⟨0,0,0,0⟩/\Below w.heap.size w wr) (λ u _=>4-(intOf u).toNat)
 case atStart=>exact⟨0,rfl,by omega,HS0.out,HR0.out,HB0.out⟩
 case round=>
  obtain⟨k,rfl,hk,hS,hR,hB⟩:=hrel;clear HS0 HR0 HB0 hW;by_cases hlt:k<4
  . have y0:=hS.cell hlt;rw [qp7 q hlt] at y0;have y1:wr.frozen? ⟨w.heap.size,k,none⟩=false:=Blk.frozen hS _;have hN:=hS.setW hlt (y83 (q.word k));rw [jk6 q hlt] at hN;have HN:=qh hN;have HR2:Hid (SBlk (wr.setCell ⟨w.heap.size,k,none⟩ (.int .u64 ((y83 (q.word k):Nat):Int))) (w.heap.size+1) ⟨0,0,0,0⟩):=Blk.far hR (by dsimp only;omega) _;have HB2:=qh (hB.setCell (p:=⟨w.heap.size,k,none⟩) (Nat.le_refl _) (.int .u64 ((y83 (q.word k):Nat):Int)));have HV:=qh (x84 (q.word k) (Q4.word_lt hq k));clear hS hR hB hN;obtain rfl|rfl|rfl|rfl:k=0\/k=1\/k=2\/k=3:=by omega
    . go_wp2_with fail;exact⟨⟨1,rfl,by omega,by rw [HV.out];exact HN.out,by rw [HV.out];exact HR2.out,by rw [HV.out];exact HB2.out⟩,by simp [intOf]⟩
    . go_wp2_with fail;exact⟨⟨2,rfl,by omega,by rw [HV.out];exact HN.out,by rw [HV.out];exact HR2.out,by rw [HV.out];exact HB2.out⟩,by simp [intOf]⟩
    . go_wp2_with fail;exact⟨⟨3,rfl,by omega,by rw [HV.out];exact HN.out,by rw [HV.out];exact HR2.out,by rw [HV.out];exact HB2.out⟩,by simp [intOf]⟩
    . go_wp2_with fail;exact⟨⟨4,rfl,by omega,by rw [HV.out];exact HN.out,by rw [HV.out];exact HR2.out,by rw [HV.out];exact HB2.out⟩,by simp [intOf]⟩
  . obtain rfl:k=4:=(by omega);have hS4:SBlk wr w.heap.size q.not:=hS;obtain⟨y0,y1,y2,y3⟩:=Blk.c4 hS4;obtain⟨r0,r1,r2,r3⟩:=Blk.z4 hR;obtain⟨f0,f1,f2,f3⟩:=Blk.f4 hR;obtain⟨Q,hQ⟩:∃ Q,Q=q.not:=⟨_,rfl⟩;rw [<-hQ] at y0 y1 y2 y3;have HQ:=qh hQ;have h1:SBlk _ _ _:=hR.setW (k:=0) (by omega) Q.a;have h2:SBlk _ _ _:=h1.setW (k:=1) (by omega) Q.b;have h3:SBlk _ _ _:=h2.setW (k:=2) (by omega) Q.c;have h4:SBlk _ _ _:=h3.setW (k:=3) (by omega) Q.d;have HZ:=qh h4;have HBZ:=qh ((((hB.setCell (p:=⟨w.heap.size+1,0,none⟩) (by dsimp only;omega) (.int .u64 (Q.a:Int))).setCell (p:=⟨w.heap.size+1,1,none⟩) (by dsimp only;omega) (.int .u64 (Q.b:Int))).setCell (p:=⟨w.heap.size+1,2,none⟩) (by dsimp only;omega) (.int .u64 (Q.c:Int))).setCell (p:=⟨w.heap.size+1,3,none⟩) (by dsimp only;omega) (.int .u64 (Q.d:Int)));clear hS hR hB hS4 hlt h1 h2 h3 h4 hQ;go_wp2_with fail;obtain⟨wz,hwz⟩:∃ wz,wz=(((wr.setCell ⟨w.heap.size+1,0,none⟩ (.int .u64 (Q.a:Int))).setCell ⟨w.heap.size+1,1,none⟩ (.int .u64 (Q.b:Int))).setCell ⟨w.heap.size+1,2,none⟩ (.int .u64 (Q.c:Int))).setCell ⟨w.heap.size+1,3,none⟩ (.int .u64 (Q.d:Int)):=⟨_,rfl⟩;have hz:=HZ.out;have hbz:=HBZ.out;rw [<-hwz] at hz hbz⊢;have z0:wz.cell? ⟨w.heap.size+1,0,none⟩=some (.int .u64 (Q.a:Int)):=hz.cell (k:=0) (by omega);have z1:wz.cell? ⟨w.heap.size+1,1,none⟩=some (.int .u64 (Q.b:Int)):=hz.cell (k:=1) (by omega);have z2:wz.cell? ⟨w.heap.size+1,2,none⟩=some (.int .u64 (Q.c:Int)):=hz.cell (k:=2) (by omega);have z3:wz.cell? ⟨w.heap.size+1,3,none⟩=some (.int .u64 (Q.d:Int)):=hz.cell (k:=3) (by omega);refine bodyPost_ret (v:=Qj7 Q) (by simp [results,Tryz.results214,go_sem,z0,z1,z2,z3,Qj7]) rfl ⟨by rw [HQ.out];rfl,hbz⟩
def Xo7 (lo hi:Int) (w:World) (e:Ending) (w':World):Prop:=∃ q,e= .returned (Qj7 q)/\SetOf q (yz3 lo hi)/\Below w.heap.size w w'
set_option maxHeartbeats 1000000 in
theorem YU4 (lo hi:Nat) (hh:hi<=255) (w:World):
 Calls Tryz.prog 143 #[.int .i64 (lo:Int),.int .i64 (hi:Int)] w (Xo7 lo hi w):=by
 by_cases h:lo<=hi+1
 . refine(j12 lo hi hh w h).mono ?_;rintro e w' ⟨q,h1,h2,h3⟩;refine⟨q,h1,⟨h2.1,λ b hb=> ?_⟩,h3⟩;rw [h2.2 b hb];unfold Xs8 yz3;rw [Bool.eq_iff_iff,decide_eq_true_eq,decide_eq_true_eq];omega
 . have HS:=qh (Sb2.start w);have i1:¬(lo:Int)<=(hi:Int):=by omega
   have HQ:Hid (SetOf ⟨0,0,0,0⟩ (yz3 lo hi)):=qh ⟨⟨by decide,by decide,by decide,by decide⟩,λ b _=>by
    rw [xF5];unfold yz3;rw [eq_comm,decide_eq_false_iff_not];omega⟩
   obtain⟨W,hW⟩:∃ W,(w.alloc (.cells #[.int .u64 0,.int .u64 0,.int .u64 0,.int .u64 0] 122)).alloc (.cells #[.int .u64 0,.int .u64 0,.int .u64 0,.int .u64 0] 122)=W:=⟨_,rfl⟩;have hS:Sb2 w W ⟨0,0,0,0⟩:=(by rw [<-hW];exact HS.out);obtain⟨y0,y1,y2,y3⟩:=Blk.z4 hS.set;obtain⟨r0,r1,r2,r3⟩:=Blk.z4 hS.res;obtain⟨f0,f1,f2,f3⟩:=Blk.f4 hS.res;have HS2:=qh hS;clear hS h HS;go_enter Tryz.func143,Tryz.ntmps143;go_wp2_with fail;go_loopw [6] (λ u wr=>u= .int .i64 (lo:Int)/\wr=W) (λ u _=>0)
   case atStart=>exact⟨rfl,rfl⟩
   case round=>
    obtain⟨rfl,rfl⟩:=hrel;clear hW;go_wp2_with fail;obtain⟨wz,hwz,hz,z0,z1,z2,z3⟩:=HS2.out.put_;rw [show (((0:Nat):Int))=0 from rfl] at hwz z0 z1 z2 z3;rw [<-hwz];refine bodyPost_ret (v:=Qj7 ⟨0,0,0,0⟩) (by simp [results,Tryz.results143,go_sem,z0,z1,z2,z3,Qj7]) rfl ⟨_,rfl,HQ.out,hz⟩
def orKp (q r:Q4) (k:Nat):Q4:=⟨if 0<k then q.a|||r.a else q.a,if 1<k then q.b|||r.b else q.b,if 2<k then q.c|||r.c else q.c,if 3<k then q.d|||r.d else q.d⟩
theorem zt9 (q r:Q4) {k:Nat} (hk:k<4):(orKp q r k).word k=q.word k:=by
 obtain rfl|rfl|rfl|rfl:k=0\/k=1\/k=2\/k=3:=by omega
 all_goals rfl
theorem zz3 (q r:Q4) {k:Nat} (hk:k<4):(orKp q r k).setW k (q.word k|||r.word k)=orKp q r (k+1):=by
 obtain rfl|rfl|rfl|rfl:k=0\/k=1\/k=2\/k=3:=by omega
 all_goals rfl
structure Un (w wr:World) (q r:Q4) (k:Nat):Prop where
 sa:SBlk wr w.heap.size (orKp q r k)
 sb:SBlk wr (w.heap.size+1) r
 re:SBlk wr (w.heap.size+2) ⟨0,0,0,0⟩
 be:Below w.heap.size w wr
theorem Un.drew {w wr:World} {q r:Q4} {k:Nat} (h:Un w wr q r k):Un w wr.drew q r k:=⟨h.sa.drew,h.sb.drew,h.re.drew,h.be.drew⟩
theorem Un.next {w wr:World} {q r:Q4} {k:Nat} (h:Un w wr q r k) (hk:k<4):Un w (wr.setCell ⟨w.heap.size,k,none⟩ (.int .u64 ((q.word k|||r.word k:Nat):Int))) q r (k+1):=by
 have hN:=h.sa.setW hk (q.word k|||r.word k);rw [zz3 q r hk] at hN;exact⟨hN,Blk.far h.sb (by dsimp only;omega) _,Blk.far h.re (by dsimp only;omega) _,h.be.setCell (p:=⟨w.heap.size,k,none⟩) (Nat.le_refl _) _⟩
set_option maxRecDepth 100000 in
set_option maxHeartbeats 2000000 in
theorem JV4 (q r:Q4) (hq:q.ok) (hr:r.ok) (w:World):
 Calls Tryz.prog 228 #[Qj7 q,Qj7 r] w λ e w'=>e= .returned (Qj7 (q.or r))/\Below w.heap.size w w':=by
 obtain⟨W,hW⟩:∃ W,((w.alloc (.cells #[.int .u64 (q.a:Int),.int .u64 (q.b:Int),.int .u64 (q.c:Int),.int .u64 (q.d:Int)] 122)).alloc (.cells #[.int .u64 (r.a:Int),.int .u64 (r.b:Int),.int .u64 (r.c:Int),.int .u64 (r.d:Int)] 122)).alloc (.cells #[.int .u64 0,.int .u64 0,.int .u64 0,.int .u64 0] 122)=W:=⟨_,rfl⟩
 have HU:Hid (Un w W q r 0):=qh (by
  rw [<-hW];refine⟨(Blk.alloc (Blk.alloc (Blk.new w _ _) _) _),Blk.alloc ?_ _,?_,(((Below.refl _ _).alloc (Nat.le_refl _) _).alloc (by simp) _).alloc (by simp;omega) _⟩
  . have:=Blk.new (w.alloc (.cells #[.int .u64 (q.a:Int),.int .u64 (q.b:Int),.int .u64 (q.c:Int),.int .u64 (q.d:Int)] 122)) 122 #[.int .u64 (r.a:Int),.int .u64 (r.b:Int),.int .u64 (r.c:Int),.int .u64 (r.d:Int)]
    simpa using this
  . have:=SBlk.new ((w.alloc (.cells #[.int .u64 (q.a:Int),.int .u64 (q.b:Int),.int .u64 (q.c:Int),.int .u64 (q.d:Int)] 122)).alloc (.cells #[.int .u64 (r.a:Int),.int .u64 (r.b:Int),.int .u64 (r.c:Int),.int .u64 (r.d:Int)] 122))
    simpa using this)
 unfold Qj7;go_enter Tryz.func228,Tryz.ntmps228;go_wp2_with fail;rw [show w.heap.size+1+1=w.heap.size+2 from rfl];go_loopw [6] (λ u wr=>∃ k:Nat,u= .int .i64 (k:Int)/\k<=4/\Hid (Un w wr q r k)) (λ u _=>4-(intOf u).toNat)
 case atStart=>exact⟨0,rfl,by omega,HU⟩
 case round=>
  obtain⟨k,rfl,hk,HK⟩:=hrel;clear HU hW;by_cases hlt:k<4
  . have y0:=HK.out.sa.cell hlt;rw [zt9 q r hlt] at y0;have y1:wr.frozen? ⟨w.heap.size,k,none⟩=false:=Blk.frozen HK.out.sa _;have y2:=HK.out.sb.cell hlt;have HN:=qh (HK.out.drew.next hlt);have HV:=qh (u64_or_nat (q.word k) (r.word k) (Q4.word_lt hq k) (Q4.word_lt hr k));obtain rfl|rfl|rfl|rfl:k=0\/k=1\/k=2\/k=3:=by omega
    . go_wp2_with fail;go_region
      all_goals go_wp2_with fail
      all_goals go_roundw
      case rel=>exact⟨1,rfl,by omega,by rw [HV.out];exact HN⟩
      case measure=>simp [intOf]
    . go_wp2_with fail;go_region
      all_goals go_wp2_with fail
      all_goals go_roundw
      case rel=>exact⟨2,rfl,by omega,by rw [HV.out];exact HN⟩
      case measure=>simp [intOf]
    . go_wp2_with fail;go_region
      all_goals go_wp2_with fail
      all_goals go_roundw
      case rel=>exact⟨3,rfl,by omega,by rw [HV.out];exact HN⟩
      case measure=>simp [intOf]
    . go_wp2_with fail;go_region
      all_goals go_wp2_with fail
      all_goals go_roundw
      case rel=>exact⟨4,rfl,by omega,by rw [HV.out];exact HN⟩
      case measure=>simp [intOf]
  . obtain rfl:k=4:=(by omega);have hS4:SBlk wr w.heap.size (q.or r):=HK.out.sa;have hR:=HK.out.re;have hB:=HK.out.be;obtain⟨y0,y1,y2,y3⟩:=Blk.c4 hS4;obtain⟨r0,r1,r2,r3⟩:=Blk.z4 hR;obtain⟨f0,f1,f2,f3⟩:=Blk.f4 hR;obtain⟨Q,hQ⟩:∃ Q,Q=q.or r:=⟨_,rfl⟩;rw [<-hQ] at y0 y1 y2 y3;have HQ:=qh hQ;have h1:SBlk _ _ _:=hR.setW (k:=0) (by omega) Q.a;have h2:SBlk _ _ _:=h1.setW (k:=1) (by omega) Q.b;have h3:SBlk _ _ _:=h2.setW (k:=2) (by omega) Q.c;have h4:SBlk _ _ _:=h3.setW (k:=3) (by omega) Q.d;have HZ:=qh h4;have HBZ:=qh ((((hB.setCell (p:=⟨w.heap.size+2,0,none⟩) (by dsimp only;omega) (.int .u64 (Q.a:Int))).setCell (p:=⟨w.heap.size+2,1,none⟩) (by dsimp only;omega) (.int .u64 (Q.b:Int))).setCell (p:=⟨w.heap.size+2,2,none⟩) (by dsimp only;omega) (.int .u64 (Q.c:Int))).setCell (p:=⟨w.heap.size+2,3,none⟩) (by dsimp only;omega) (.int .u64 (Q.d:Int)));clear hR hB hS4 hlt h1 h2 h3 h4 hQ HK;go_wp2_with fail;obtain⟨wz,hwz⟩:∃ wz,wz=(((wr.setCell ⟨w.heap.size+2,0,none⟩ (.int .u64 (Q.a:Int))).setCell ⟨w.heap.size+2,1,none⟩ (.int .u64 (Q.b:Int))).setCell ⟨w.heap.size+2,2,none⟩ (.int .u64 (Q.c:Int))).setCell ⟨w.heap.size+2,3,none⟩ (.int .u64 (Q.d:Int)):=⟨_,rfl⟩;have hz:=HZ.out;have hbz:=HBZ.out;rw [<-hwz] at hz hbz⊢;have z0:wz.cell? ⟨w.heap.size+2,0,none⟩=some (.int .u64 (Q.a:Int)):=hz.cell (k:=0) (by omega);have z1:wz.cell? ⟨w.heap.size+2,1,none⟩=some (.int .u64 (Q.b:Int)):=hz.cell (k:=1) (by omega);have z2:wz.cell? ⟨w.heap.size+2,2,none⟩=some (.int .u64 (Q.c:Int)):=hz.cell (k:=2) (by omega);have z3:wz.cell? ⟨w.heap.size+2,3,none⟩=some (.int .u64 (Q.d:Int)):=hz.cell (k:=3) (by omega);refine bodyPost_ret (v:=Qj7 Q) (by simp [results,Tryz.results228,go_sem,z0,z1,z2,z3,Qj7]) rfl ⟨by rw [HQ.out];rfl,hbz⟩
end Go.Proofs.YtngepacmgabmaaaGreatDoor
