/- The reference's readings; Walk: wickref.ReadRex. (printed by gen_r .. -/
import Derived.Test.YtngepacmgabmaaaGreatDoorGab
import Derived.Test.YtngepacmgabmaaaGreatDoorGag
import Derived.Test.YtngepacmgabmaaaGreatDoorGy
namespace Go.Proofs.YtngepacmgabmaaaGreatDoor
open Go.RowKit
set_option linter.unusedVariables false
set_option linter.unusedSimpArgs false
theorem QX1 (s:ByteArray) (hs:s.size<=200):∀ n:Nat,n<=20->q10 191 (20-(n:Int)) s (amF s n)
 |0,_=>by
  rw [Jt4];exact Qw6 s hs _ none ⟨by omega,by omega⟩ (λ _=>by omega) λ B h=>by cases h
 |n+1,hn=>by
  rw [kF4];have ih:=QX1 s hs n (by omega);have hg:=Jb3 s n;have h1:=xQ3 s hs _ ⟨by omega,by omega⟩ _ ih hg;have h2:=zI6 s hs _ ⟨by omega,by omega⟩ _ h1 (yz8 hg);have h3:=kR7 s hs _ ⟨by omega,by omega⟩ _ h2 (K02 (yz8 hg));refine Qw6 s hs _ _ ⟨by omega,by omega⟩ (λ h=>by cases h) λ B h=> ?_
  cases h;refine⟨by omega,?_,X04 hg⟩;have e:(20:Int)-((n+1:Nat):Int)+1=20-(n:Int):=by omega
  rw [e];exact h3
theorem altR (s:ByteArray) (hs:s.size<=200):q10 117 0 s (alF s (amF s 20)):=by
 have ih:=QX1 s hs 20 (by omega);have hg:=Jb3 s 20;have h3:=kR7 s hs _ ⟨by omega,by omega⟩ _ (zI6 s hs _ ⟨by omega,by omega⟩ _ (xQ3 s hs _ ⟨by omega,by omega⟩ _ ih hg) (yz8 hg)) (K02 (yz8 hg));exact h3
section
variable (s:ByteArray) (w:World)
set_option maxHeartbeats 2000000 in
theorem qt4 (h:200<s.size):Calls Tryz.prog 88 #[.string s] w (RdRes s w):=by
 have HR:Hid (rdR 0 s=(Y41 0,0,2)):=qh (if_pos h);have HS:=qh h;have hc:decide ((200:Int)<(s.size:Int))=true:=decide_eq_true (by omega);have HB9:Hid (Below w.heap.size w (w.alloc (.cells #[.int .i64 0,.int .u64 0,.int .u64 0,.int .u64 0,.int .u64 0,.slice none 0 0] 125))):=qh ((Below.refl _ _).alloc (Nat.le_refl _) _);have HE9:=qh (Blk.new w 125 #[.int .i64 0,.int .u64 0,.int .u64 0,.int .u64 0,.int .u64 0,.slice none 0 0]);clear h;go_enter Tryz.func88,Tryz.ntmps88;go_wp2_with fail;obtain⟨wk,hwk⟩:∃ wk,wk=w.alloc (.cells #[.int .i64 0,.int .u64 0,.int .u64 0,.int .u64 0,.int .u64 0,.slice none 0 0] 125):=⟨_,rfl⟩;rw [<-hwk] at HB9 HE9⊢;clear hwk;obtain⟨r0,r1,r2,r3,r4,r5⟩:=Blk.c6 HE9.out;obtain⟨fr0,fr1,fr2,fr3,fr4,fr5⟩:=Blk.f6 HE9.out;have HZT:Hid (RxT wk (λ b=>w.heap.size<=b/\b<wk.heap.size) 1 (Y41 0) (six 0 0 0 0 0 none 0 0)):=qh (RxT.leaf _ _ 0 zq q30 (by decide) (by decide));go_wp2_with fail;refine bodyPost_ret (v:= .tuple #[.agg #[.int .i64 0,.int .u64 0,.int .u64 0,.int .u64 0,.int .u64 0,.slice none 0 0],.int .i64 0,.int .i64 2]) (by simp [results,Tryz.results88,go_sem,r0,r1,r2,r3,r4,r5]) rfl (RdRes.mk HR.out HZT.out (λ h=>absurd HS.out (by omega)) HB9.out)
set_option maxRecDepth 100000 in
set_option maxHeartbeats 4000000 in
theorem KJ6 (hs:s.size<=200):Calls Tryz.prog 88 #[.string s] w (RdRes s w):=by
 obtain⟨W,hW⟩:∃ W,(w.alloc (.cells #[.int .i64 0,.int .u64 0,.int .u64 0,.int .u64 0,.int .u64 0,.slice none 0 0] 125)).alloc (.cells #[.string s,.int .i64 0,.int .i64 0,.int .i64 0,.int .i64 0] 157)=W:=⟨_,rfl⟩
 have hWT:Tb W (w.heap.size+1) s 0 0 0 0:=by
  rw [<-hW];have:=Blk.new (w.alloc (.cells #[.int .i64 0,.int .u64 0,.int .u64 0,.int .u64 0,.int .u64 0,.slice none 0 0] 125)) 157 #[.string s,.int .i64 0,.int .i64 0,.int .i64 0,.int .i64 0];rw [show (w.alloc (.cells #[.int .i64 0,.int .u64 0,.int .u64 0,.int .u64 0,.int .u64 0,.slice none 0 0] 125)).heap.size=w.heap.size+1 by simp] at this;exact this
 have hWR:Tq (270-0) W (w.heap.size+1) s ⟨0,0⟩ 0:=Tq.good (p:=0) hWT rfl (by omega);have hWE:Blk W w.heap.size 125 #[.int .i64 0,.int .u64 0,.int .u64 0,.int .u64 0,.int .u64 0,.slice none 0 0]:=by rw [<-hW];exact Blk.alloc (Blk.new w _ _) _
 have hWB:Below w.heap.size w W:=by rw [<-hW];exact((Below.refl _ _).alloc (Nat.le_refl _) _).alloc (by simp) _
 have hWz:W.heap.size=w.heap.size+2:=by rw [<-hW];simp
 have C0:=qh (altR s hs (w.heap.size+1) W ⟨0,0⟩ rfl (Nat.zero_le _) hWR);have HWE:=qh hWE;have HWB:=qh hWB;have hgo:=(X04 (Jb3 s 20)) ⟨0,0⟩ rfl (Nat.zero_le _);have hyp:=hgo.1;obtain⟨T,hT⟩:∃ T,T=alF s (amF s 20) ⟨0,0⟩:=⟨_,rfl⟩;rw [<-hT] at C0 hyp;have HT:Hid (rd1 s=T):=qh hT.symm;obtain⟨t,y⟩:=T;have hc:decide ((200:Int)<(s.size:Int))=false:=decide_eq_false (by omega);clear hWR hWE hWB hT hgo hWT;dsimp only at hyp;go_enter Tryz.func88,Tryz.ntmps88;go_wp2_with fail;refine C0.out.mono ?_;rintro e w1 ⟨x0,x1,x2,x3,x4,xA,xl,xc,rfl,hr1,hk1,ht1⟩;have hz1:w.heap.size+2<=w1.heap.size:=by have:=hk1.size;omega
 have hal:=(Below.refl w1.heap.size w1).alloc (Nat.le_refl _) (.cells #[.int .i64 x0,.int .u64 x1,.int .u64 x2,.int .u64 x3,.int .u64 x4,.slice xA xl xc] 125);have HE1:Hid (Blk (w1.alloc (.cells #[.int .i64 x0,.int .u64 x1,.int .u64 x2,.int .u64 x3,.int .u64 x4,.slice xA xl xc] 125)) w.heap.size 125 #[.int .i64 0,.int .u64 0,.int .u64 0,.int .u64 0,.int .u64 0,.slice none 0 0]):=qh (Blk.alloc (hk1.blk HWE.out (by omega)) _);have HO1:=qh (Blk.new w1 125 #[.int .i64 x0,.int .u64 x1,.int .u64 x2,.int .u64 x3,.int .u64 x4,.slice xA xl xc]);have HR1:Hid (Tq (270-0) (w1.alloc (.cells #[.int .i64 x0,.int .u64 x1,.int .u64 x2,.int .u64 x3,.int .u64 x4,.slice xA xl xc] 125)) (w.heap.size+1) s y 0):=qh (hr1.below hal);have HB1:Hid (Below w.heap.size w (w1.alloc (.cells #[.int .i64 x0,.int .u64 x1,.int .u64 x2,.int .u64 x3,.int .u64 x4,.slice xA xl xc] 125))):=qh ((HWB.out.trans (hk1.below (by omega) (by omega))).alloc (by omega) _)
 have HT1:Hid (y.e=0->∃ n,RxT (w1.alloc (.cells #[.int .i64 x0,.int .u64 x1,.int .u64 x2,.int .u64 x3,.int .u64 x4,.slice xA xl xc] 125)) (λ b=>w.heap.size<b/\b<(w1.alloc (.cells #[.int .i64 x0,.int .u64 x1,.int .u64 x2,.int .u64 x3,.int .u64 x4,.slice xA xl xc] 125)).heap.size) n t (six x0 x1 x2 x3 x4 xA xl xc)):=qh λ hy=>by
  obtain⟨n,hn⟩:=ht1 hy;exact⟨n,(hn.below hal λ b hb=>hb.2).weak λ b hb=>⟨by omega,by simp;omega⟩⟩
 clear hr1 hk1 ht1 hW hWz hal;go_upto_region 5 with fail;obtain⟨gT,hgT⟩:∃ gT,w1.heap.size=gT:=⟨_,rfl⟩;rw [hgT] at HO1⊢;obtain⟨W1,hW1⟩:∃ W1,(w1.alloc (.cells #[.int .i64 x0,.int .u64 x1,.int .u64 x2,.int .u64 x3,.int .u64 x4,.slice xA xl xc] 125))=W1:=⟨_,rfl⟩;rw [hW1] at HE1 HO1 HR1 HB1 HT1⊢;clear hW1;by_cases hy:y.e=0
 . obtain⟨r0,hr0⟩:=HR1.out.at0 hy;obtain⟨d0,d1,d2,d3,d4⟩:=hr0.facts;have HRT:=qh hr0;have HY:=qh hy;obtain⟨n,hn⟩:=HT1.out hy;have HN:=qh hn;clear hy hn hr0;by_cases hlt:y.p<s.size
   . have hl1:decide ((y.p:Int)<(s.size:Int))=true:=decide_eq_true (by omega);have HYe:Hid (rdY s=⟨y.p,3⟩):=qh (by unfold rdY;rw [HT.out];exact if_pos ⟨HY.out,hlt⟩);have HR:Hid (rdR 0 s=(Y41 0,(y.p:Int),3)):=qh (by unfold rdR;rw [if_neg (by omega),HYe.out];rfl);go_wp2_with fail;refine(zF3 s _ 0 r0 (w.heap.size+1) W1 3 (y.p:Int) HRT.out).mono ?_;rintro e w2 ⟨rfl,hr2,hk2⟩;have HE9:=qh (hk2.blk HE1.out (by omega));have HB9:=qh (HB1.out.trans (hk2.below HB1.out.size (by omega)));obtain⟨q0,q1,q2,q3,q4⟩:=hr2.facts;clear hr2 hk2 d0 d1 d2 d3 d4 HRT;obtain⟨r0,r1,r2,r3,r4,r5⟩:=Blk.c6 HE9.out;obtain⟨fr0,fr1,fr2,fr3,fr4,fr5⟩:=Blk.f6 HE9.out;have HZ:Hid (Blk (((((((w2.setCell ⟨w.heap.size,0,none⟩ (.int .i64 0)).setCell ⟨w.heap.size,1,none⟩ (.int .u64 0)).setCell ⟨w.heap.size,2,none⟩ (.int .u64 0)).setCell ⟨w.heap.size,3,none⟩ (.int .u64 0)).setCell ⟨w.heap.size,4,none⟩ (.int .u64 0)).setCell ⟨w.heap.size,5,none⟩ (.slice none 0 0))).drew w.heap.size 125 #[.int .i64 0,.int .u64 0,.int .u64 0,.int .u64 0,.int .u64 0,.slice none 0 0]):=qh (Blk.drewN (J42 (cs:= [.int .i64 0,.int .u64 0,.int .u64 0,.int .u64 0,.int .u64 0,.slice none 0 0]) HE9.out rfl 0 0 0 0 0 none 0 0) 1);have HZB:Hid (Below w.heap.size w (((((((w2.setCell ⟨w.heap.size,0,none⟩ (.int .i64 0)).setCell ⟨w.heap.size,1,none⟩ (.int .u64 0)).setCell ⟨w.heap.size,2,none⟩ (.int .u64 0)).setCell ⟨w.heap.size,3,none⟩ (.int .u64 0)).setCell ⟨w.heap.size,4,none⟩ (.int .u64 0)).setCell ⟨w.heap.size,5,none⟩ (.slice none 0 0))).drew):=qh (below_drewN (JC5 HB9.out (Nat.le_refl _) 0 0 0 0 0 none 0 0) 1);go_wp2_with fail;go_region
     go_wp2_with fail;obtain⟨wz,hwz⟩:∃ wz,wz=(((((((w2.setCell ⟨w.heap.size,0,none⟩ (.int .i64 0)).setCell ⟨w.heap.size,1,none⟩ (.int .u64 0)).setCell ⟨w.heap.size,2,none⟩ (.int .u64 0)).setCell ⟨w.heap.size,3,none⟩ (.int .u64 0)).setCell ⟨w.heap.size,4,none⟩ (.int .u64 0)).setCell ⟨w.heap.size,5,none⟩ (.slice none 0 0))).drew:=⟨_,rfl⟩;have hz:=HZ.out;have hzb:=HZB.out;rw [<-hwz] at hz hzb⊢;obtain⟨z0,z1,z2,z3,z4,z5⟩:=Blk.c6 hz;have hzt:RxT wz (λ b=>w.heap.size<=b/\b<wz.heap.size) 1 (Y41 0) (six 0 0 0 0 0 none 0 0):=RxT.leaf _ _ 0 zq q30 (by decide) (by decide);refine bodyPost_ret (v:= .tuple #[.agg #[.int .i64 0,.int .u64 0,.int .u64 0,.int .u64 0,.int .u64 0,.slice none 0 0],.int .i64 (y.p:Int),.int .i64 3]) (by simp [results,Tryz.results88,go_sem,z0,z1,z2,z3,z4,z5]) rfl (RdRes.mk HR.out hzt (λ _ h=>absurd h (by rw [HYe.out];exact(show ¬(3:Int)=0 by decide))) hzb)
   . have hl1:decide ((y.p:Int)<(s.size:Int))=false:=decide_eq_false (by omega);have HYe:Hid (rdY s=y):=qh (by unfold rdY;rw [HT.out];exact if_neg λ k=>hlt k.2);have HFT:Hid (FitP n (rd1 s).1):=qh ⟨_,_,_,by rw [HT.out];exact HN.out⟩;have CK:=qh (ZE2 n t _ W1.heap.size W1 (HN.out.rxC λ b hb=>hb.2) (Nat.le_refl _));obtain⟨E,hE⟩:∃ E,E=Xm7 n t:=⟨_,rfl⟩;rw [<-hE] at CK;have HEE:=qh hE;clear hE HRT;obtain⟨o0,o1,o2,o3,o4,o5⟩:=Blk.c6 HO1.out;go_wp2_with fail;refine CK.out.mono ?_;rintro e w2 ⟨rfl,hb2⟩;have HE9:=qh (Blk.below HE1.out hb2 (Blk.lt HE1.out));have HB9:=qh (HB1.out.trans (hb2.mono HB1.out.size));have HO2:=qh (Blk.below HO1.out hb2 (Blk.lt HO1.out));have HN2:=qh (HN.out.below hb2 λ b hb=>hb.2);have hz2:=hb2.size;clear hb2 o0 o1 o2 o3 o4 o5 d0 d1 d2 d3 d4;by_cases hE0:E=0
     . subst hE0;have HR:Hid (rdR n s=(t,0,0)):=qh (by unfold rdR;rw [if_neg (by omega),HYe.out,if_neg (λ k=>k HY.out),HT.out,<-HEE.out];rfl);obtain⟨o0,o1,o2,o3,o4,o5⟩:=Blk.c6 HO2.out;obtain⟨r0,r1,r2,r3,r4,r5⟩:=Blk.c6 HE9.out;obtain⟨fr0,fr1,fr2,fr3,fr4,fr5⟩:=Blk.f6 HE9.out;have HZ:=qh (J42 (cs:= [.int .i64 0,.int .u64 0,.int .u64 0,.int .u64 0,.int .u64 0,.slice none 0 0]) HE9.out rfl x0 x1 x2 x3 x4 xA xl xc);have HZB:Hid (Below w.heap.size w ((((((w2.setCell ⟨w.heap.size,0,none⟩ (.int .i64 x0)).setCell ⟨w.heap.size,1,none⟩ (.int .u64 x1)).setCell ⟨w.heap.size,2,none⟩ (.int .u64 x2)).setCell ⟨w.heap.size,3,none⟩ (.int .u64 x3)).setCell ⟨w.heap.size,4,none⟩ (.int .u64 x4)).setCell ⟨w.heap.size,5,none⟩ (.slice xA xl xc))):=qh (JC5 HB9.out (Nat.le_refl _) x0 x1 x2 x3 x4 xA xl xc);have HZT:Hid (RxT ((((((w2.setCell ⟨w.heap.size,0,none⟩ (.int .i64 x0)).setCell ⟨w.heap.size,1,none⟩ (.int .u64 x1)).setCell ⟨w.heap.size,2,none⟩ (.int .u64 x2)).setCell ⟨w.heap.size,3,none⟩ (.int .u64 x3)).setCell ⟨w.heap.size,4,none⟩ (.int .u64 x4)).setCell ⟨w.heap.size,5,none⟩ (.slice xA xl xc)) (λ b=>w.heap.size<=b/\b<(((((((w2.setCell ⟨w.heap.size,0,none⟩ (.int .i64 x0)).setCell ⟨w.heap.size,1,none⟩ (.int .u64 x1)).setCell ⟨w.heap.size,2,none⟩ (.int .u64 x2)).setCell ⟨w.heap.size,3,none⟩ (.int .u64 x3)).setCell ⟨w.heap.size,4,none⟩ (.int .u64 x4)).setCell ⟨w.heap.size,5,none⟩ (.slice xA xl xc))).heap.size) n t (six x0 x1 x2 x3 x4 xA xl xc)):=qh (by exact(HN2.out.put6 (g:=w.heap.size) (λ hh=>absurd hh.1 (Nat.lt_irrefl _)) x0 x1 x2 x3 x4 xA xl xc).weak λ b hb=>⟨Nat.le_of_lt hb.1,by rw [j80];omega⟩);go_wp2_with fail;obtain⟨wz,hwz⟩:∃ wz,wz=((((((w2.setCell ⟨w.heap.size,0,none⟩ (.int .i64 x0)).setCell ⟨w.heap.size,1,none⟩ (.int .u64 x1)).setCell ⟨w.heap.size,2,none⟩ (.int .u64 x2)).setCell ⟨w.heap.size,3,none⟩ (.int .u64 x3)).setCell ⟨w.heap.size,4,none⟩ (.int .u64 x4)).setCell ⟨w.heap.size,5,none⟩ (.slice xA xl xc)):=⟨_,rfl⟩;have hz:=HZ.out;have hzb:=HZB.out;have hzt:=HZT.out
       rw [<-hwz] at hz hzb hzt⊢;obtain⟨z0,z1,z2,z3,z4,z5⟩:=Blk.c6 hz;refine bodyPost_ret (v:= .tuple #[.agg #[.int .i64 x0,.int .u64 x1,.int .u64 x2,.int .u64 x3,.int .u64 x4,.slice xA xl xc],.int .i64 0,.int .i64 0]) (by simp [results,Tryz.results88,go_sem,z0,z1,z2,z3,z4,z5]) rfl (RdRes.mk HR.out hzt (λ _ _=>HFT.out) hzb)
     . have hE1:(E !=0)=true:=bne_iff_ne.2 hE0;have HR:Hid (rdR n s=(Y41 0,(s.size:Int),E)):=qh (by unfold rdR;rw [if_neg (by omega),HYe.out,if_neg (λ k=>k HY.out),HT.out,<-HEE.out];exact if_pos hE0);clear hE0;obtain⟨r0,r1,r2,r3,r4,r5⟩:=Blk.c6 HE9.out;obtain⟨fr0,fr1,fr2,fr3,fr4,fr5⟩:=Blk.f6 HE9.out;have HZ:Hid (Blk ((((((w2.setCell ⟨w.heap.size,0,none⟩ (.int .i64 0)).setCell ⟨w.heap.size,1,none⟩ (.int .u64 0)).setCell ⟨w.heap.size,2,none⟩ (.int .u64 0)).setCell ⟨w.heap.size,3,none⟩ (.int .u64 0)).setCell ⟨w.heap.size,4,none⟩ (.int .u64 0)).setCell ⟨w.heap.size,5,none⟩ (.slice none 0 0)) w.heap.size 125 #[.int .i64 0,.int .u64 0,.int .u64 0,.int .u64 0,.int .u64 0,.slice none 0 0]):=qh (J42 (cs:= [.int .i64 0,.int .u64 0,.int .u64 0,.int .u64 0,.int .u64 0,.slice none 0 0]) HE9.out rfl 0 0 0 0 0 none 0 0);have HZB:Hid (Below w.heap.size w ((((((w2.setCell ⟨w.heap.size,0,none⟩ (.int .i64 0)).setCell ⟨w.heap.size,1,none⟩ (.int .u64 0)).setCell ⟨w.heap.size,2,none⟩ (.int .u64 0)).setCell ⟨w.heap.size,3,none⟩ (.int .u64 0)).setCell ⟨w.heap.size,4,none⟩ (.int .u64 0)).setCell ⟨w.heap.size,5,none⟩ (.slice none 0 0))):=qh (JC5 HB9.out (Nat.le_refl _) 0 0 0 0 0 none 0 0);go_wp2_with fail;obtain⟨wz,hwz⟩:∃ wz,wz=((((((w2.setCell ⟨w.heap.size,0,none⟩ (.int .i64 0)).setCell ⟨w.heap.size,1,none⟩ (.int .u64 0)).setCell ⟨w.heap.size,2,none⟩ (.int .u64 0)).setCell ⟨w.heap.size,3,none⟩ (.int .u64 0)).setCell ⟨w.heap.size,4,none⟩ (.int .u64 0)).setCell ⟨w.heap.size,5,none⟩ (.slice none 0 0)):=⟨_,rfl⟩;have hz:=HZ.out;have hzb:=HZB.out;rw [<-hwz] at hz hzb⊢;obtain⟨z0,z1,z2,z3,z4,z5⟩:=Blk.c6 hz;have hzt:RxT wz (λ b=>w.heap.size<=b/\b<wz.heap.size) 1 (Y41 0) (six 0 0 0 0 0 none 0 0):=RxT.leaf _ _ 0 zq q30 (by decide) (by decide)
       refine bodyPost_ret (v:= .tuple #[.agg #[.int .i64 0,.int .u64 0,.int .u64 0,.int .u64 0,.int .u64 0,.slice none 0 0],.int .i64 (s.size:Int),.int .i64 E]) (by simp [results,Tryz.results88,go_sem,z0,z1,z2,z3,z4,z5]) rfl (RdRes.mk HR.out hzt (λ _ _=>HFT.out) hzb)
 . obtain⟨aa,rr,htt,hta,htr,ht0,ht1⟩:=HR1.out;have hrr:=htr hy;subst hrr;have hy1:(y.e==0)=false:=beq_eq_false_iff_ne.2 hy;have hy2:(y.e !=0)=true:=bne_iff_ne.2 hy;have HYe:Hid (rdY s=y):=qh (by unfold rdY;rw [HT.out];exact if_neg λ k=>hy k.1);have HYn:=qh hy;have HR:Hid (rdR 0 s=(Y41 0,(y.p:Int),y.e)):=qh (by unfold rdR;rw [if_neg (by omega),HYe.out];exact if_pos hy);have HE9:=HE1;have HB9:=HB1;have CWn:=qh (Zg6 s aa 0 (y.p:Int) (w.heap.size+1) W1 3 aa y.e hy htt);obtain⟨d0,d1,d2,d3,d4⟩:=htt.facts;clear hy htt hta htr;by_cases hlt:aa<(s.size:Int)
   focus
    have hl1:decide (aa<(s.size:Int))=true:=decide_eq_true hlt;go_wp2_with fail;refine CWn.out.mono ?_;rintro e w2 ⟨rfl,rfl⟩;obtain⟨r0,r1,r2,r3,r4,r5⟩:=Blk.c6 HE9.out;obtain⟨fr0,fr1,fr2,fr3,fr4,fr5⟩:=Blk.f6 HE9.out;have HZ:Hid (Blk (((((((w2.setCell ⟨w.heap.size,0,none⟩ (.int .i64 0)).setCell ⟨w.heap.size,1,none⟩ (.int .u64 0)).setCell ⟨w.heap.size,2,none⟩ (.int .u64 0)).setCell ⟨w.heap.size,3,none⟩ (.int .u64 0)).setCell ⟨w.heap.size,4,none⟩ (.int .u64 0)).setCell ⟨w.heap.size,5,none⟩ (.slice none 0 0))).drew w.heap.size 125 #[.int .i64 0,.int .u64 0,.int .u64 0,.int .u64 0,.int .u64 0,.slice none 0 0]):=qh (Blk.drewN (J42 (cs:= [.int .i64 0,.int .u64 0,.int .u64 0,.int .u64 0,.int .u64 0,.slice none 0 0]) HE9.out rfl 0 0 0 0 0 none 0 0) 1);have HZB:Hid (Below w.heap.size w (((((((w2.setCell ⟨w.heap.size,0,none⟩ (.int .i64 0)).setCell ⟨w.heap.size,1,none⟩ (.int .u64 0)).setCell ⟨w.heap.size,2,none⟩ (.int .u64 0)).setCell ⟨w.heap.size,3,none⟩ (.int .u64 0)).setCell ⟨w.heap.size,4,none⟩ (.int .u64 0)).setCell ⟨w.heap.size,5,none⟩ (.slice none 0 0))).drew):=qh (below_drewN (JC5 HB9.out (Nat.le_refl _) 0 0 0 0 0 none 0 0) 1);go_wp2_with fail;go_region
    go_wp2_with fail;obtain⟨wz,hwz⟩:∃ wz,wz=(((((((w2.setCell ⟨w.heap.size,0,none⟩ (.int .i64 0)).setCell ⟨w.heap.size,1,none⟩ (.int .u64 0)).setCell ⟨w.heap.size,2,none⟩ (.int .u64 0)).setCell ⟨w.heap.size,3,none⟩ (.int .u64 0)).setCell ⟨w.heap.size,4,none⟩ (.int .u64 0)).setCell ⟨w.heap.size,5,none⟩ (.slice none 0 0))).drew:=⟨_,rfl⟩
   rotate_left
   focus
    have hl1:decide (aa<(s.size:Int))=false:=decide_eq_false hlt;obtain⟨r0,r1,r2,r3,r4,r5⟩:=Blk.c6 HE9.out;obtain⟨fr0,fr1,fr2,fr3,fr4,fr5⟩:=Blk.f6 HE9.out;have HZ:Hid (Blk (((((((W1.setCell ⟨w.heap.size,0,none⟩ (.int .i64 0)).setCell ⟨w.heap.size,1,none⟩ (.int .u64 0)).setCell ⟨w.heap.size,2,none⟩ (.int .u64 0)).setCell ⟨w.heap.size,3,none⟩ (.int .u64 0)).setCell ⟨w.heap.size,4,none⟩ (.int .u64 0)).setCell ⟨w.heap.size,5,none⟩ (.slice none 0 0))).drew w.heap.size 125 #[.int .i64 0,.int .u64 0,.int .u64 0,.int .u64 0,.int .u64 0,.slice none 0 0]):=qh (Blk.drewN (J42 (cs:= [.int .i64 0,.int .u64 0,.int .u64 0,.int .u64 0,.int .u64 0,.slice none 0 0]) HE9.out rfl 0 0 0 0 0 none 0 0) 1);have HZB:Hid (Below w.heap.size w (((((((W1.setCell ⟨w.heap.size,0,none⟩ (.int .i64 0)).setCell ⟨w.heap.size,1,none⟩ (.int .u64 0)).setCell ⟨w.heap.size,2,none⟩ (.int .u64 0)).setCell ⟨w.heap.size,3,none⟩ (.int .u64 0)).setCell ⟨w.heap.size,4,none⟩ (.int .u64 0)).setCell ⟨w.heap.size,5,none⟩ (.slice none 0 0))).drew):=qh (below_drewN (JC5 HB9.out (Nat.le_refl _) 0 0 0 0 0 none 0 0) 1);go_wp2_with fail;go_region
    go_wp2_with fail;obtain⟨wz,hwz⟩:∃ wz,wz=(((((((W1.setCell ⟨w.heap.size,0,none⟩ (.int .i64 0)).setCell ⟨w.heap.size,1,none⟩ (.int .u64 0)).setCell ⟨w.heap.size,2,none⟩ (.int .u64 0)).setCell ⟨w.heap.size,3,none⟩ (.int .u64 0)).setCell ⟨w.heap.size,4,none⟩ (.int .u64 0)).setCell ⟨w.heap.size,5,none⟩ (.slice none 0 0))).drew:=⟨_,rfl⟩
   all_goals
    have hz:=HZ.out;have hzb:=HZB.out;rw [<-hwz] at hz hzb⊢;obtain⟨z0,z1,z2,z3,z4,z5⟩:=Blk.c6 hz;have hzt:RxT wz (λ b=>w.heap.size<=b/\b<wz.heap.size) 1 (Y41 0) (six 0 0 0 0 0 none 0 0):=RxT.leaf _ _ 0 zq q30 (by decide) (by decide);refine bodyPost_ret (v:= .tuple #[.agg #[.int .i64 0,.int .u64 0,.int .u64 0,.int .u64 0,.int .u64 0,.slice none 0 0],.int .i64 (y.p:Int),.int .i64 y.e]) (by simp [results,Tryz.results88,go_sem,z0,z1,z2,z3,z4,z5]) rfl (RdRes.mk HR.out hzt (λ _ h=>absurd h (by rw [HYe.out];exact HYn.out)) hzb)
end
structure In where
 (k a b:Int) (s:Q4)
abbrev inCs (k a b:Int) (s:Q4):List Value:= [.int .i64 k,.int .i64 a,.int .i64 b,.int .u64 (s.a:Int),.int .u64 (s.b:Int),.int .u64 (s.c:Int),.int .u64 (s.d:Int)]
def In.cs (i:In):List Value:=inCs i.k i.a i.b i.s
theorem In.cs_len (i:In):i.cs.length=7:=rfl
def ZW1 (l:List In):List Value:=l.flatMap In.cs
theorem ko5 (l:List In):(ZW1 l).length=l.length*7:=by
 unfold ZW1
 induction l with
 |nil=>rfl
 |cons x l ih=>rw [List.flatMap_cons,List.length_append,ih,In.cs_len,List.length_cons];omega
theorem zF2 (l m:List In):ZW1 (l++m)=ZW1 l++ZW1 m:=List.flatMap_append
theorem x91 (i:In):ZW1 [i]=i.cs:=by simp [ZW1]
theorem yq5 {l:List In} {k j:Nat} {i:In} (h:l[k]? =some i) (hj:j<7):(ZW1 l)[k*7+j]? =i.cs[j]? :=by
 obtain⟨hk,rfl⟩:=List.getElem?_eq_some_iff.1 h;have e:l=l.take k++l[k]::l.drop (k+1):=by rw [<-List.drop_eq_getElem_cons hk,List.take_append_drop]
 conv=>lhs;rw [e]
 have hc:ZW1 (l[k]::l.drop (k+1))=l[k].cs++ZW1 (l.drop (k+1)):=List.flatMap_cons;rw [zF2,hc,List.getElem?_append_right (by rw [ko5,List.length_take];omega),ko5,List.length_take,Nat.min_eq_left (by omega),Nat.add_sub_cancel_left,List.getElem?_append_left (by rw [In.cs_len];exact hj)]
theorem jR8 (l:List In) (i i':In) (m:List In) (j:Nat) (u:Value) (hj:j<7) (hc:i.cs.set j u=i'.cs):(ZW1 (l++i::m)).set (l.length*7+j) u=ZW1 (l++i'::m):=by
 have h1:∀ x:In,ZW1 (l++x::m)=ZW1 l++(x.cs++ZW1 m):=λ x=>by rw [zF2];simp [ZW1]
 rw [h1,h1,<-ko5,List.set_append_right _ _ (by omega),Nat.add_sub_cancel_left,List.set_append_left _ _ (by rw [In.cs_len];exact hj),hc]
def Zv6:Re->Nat->List In
 | .none,_=> [⟨1,0,0,⟨0,0,0,0⟩⟩]
 | .empty,_=> []
 | .byte s,_=> [⟨1,0,0,s⟩]
 | .beg,_=> [⟨4,0,0,⟨0,0,0,0⟩⟩]
 | .fin,_=> [⟨5,0,0,⟨0,0,0,0⟩⟩]
 | .cat a b,n=>Zv6 a n++Zv6 b (n+(Zv6 a n).length)
 | .alt a b,n=>⟨2,(n:Int)+1,(n:Int)+2+((Zv6 a (n+1)).length:Int),⟨0,0,0,0⟩⟩::(Zv6 a (n+1)++⟨3,(n:Int)+2+((Zv6 a (n+1)).length:Int)+((Zv6 b (n+2+(Zv6 a (n+1)).length)).length:Int),0,⟨0,0,0,0⟩⟩::Zv6 b (n+2+(Zv6 a (n+1)).length))
 | .star a,n=>⟨2,(n:Int)+1,(n:Int)+2+((Zv6 a (n+1)).length:Int),⟨0,0,0,0⟩⟩::(Zv6 a (n+1)++ [⟨3,(n:Int),0,⟨0,0,0,0⟩⟩])
theorem k29:∀ (q:Re) (n:Nat),(Zv6 q n).length<=2*q.size
 | .none,_=>by simp [Zv6,Re.size]
 | .empty,_=>by simp [Zv6,Re.size]
 | .byte s,_=>by simp [Zv6,Re.size]
 | .beg,_=>by simp [Zv6,Re.size]
 | .fin,_=>by simp [Zv6,Re.size]
 | .cat a b,n=>by
  have h1:=k29 a n;have h2:=k29 b (n+(Zv6 a n).length);simp only [Zv6,Re.size,List.length_append];omega
 | .alt a b,n=>by
  have h1:=k29 a (n+1);have h2:=k29 b (n+2+(Zv6 a (n+1)).length);simp only [Zv6,Re.size,List.length_append,List.length_cons];omega
 | .star a,n=>by
  have h1:=k29 a (n+1);simp only [Zv6,Re.size,List.length_append,List.length_cons,List.length_nil];omega
theorem y18:(Tryz.prog.info? 162).map (λ i=>(i.zero,i.size,i.bytes))=some (some (.agg #[.int .i64 0,.int .i64 0,.int .i64 0,.int .u64 0,.int .u64 0,.int .u64 0,.int .u64 0]),7,56):=by kernel_rfl
def OIn (w:World) (B:Nat) (v:Value) (l:List In):Prop:=w.ownsRow B 162 7 v l.length (ZW1 l)
section
variable {w w':World} {B:Nat} {v v':Value} {l:List In}
theorem OIn.nil (w:World) (B:Nat):OIn w B (.slice none 0 0) []:=World.ownsRow_nil _ _ _ _
theorem OIn.form (h:OIn w B v l):∃ A c,v= .slice A l.length c:=by
 rcases h.2 with⟨rfl,h2⟩|⟨g,c,cur,rfl,_⟩
 . exact⟨none,0,by rw [h2]⟩
 . exact⟨_,_,rfl⟩
theorem OIn.formAt (h:OIn w B v l) (hl:0<l.length):∃ g c,v= .slice (some ⟨g,0,none⟩) l.length c/\l.length<=c/\c<=9223372036854775807/\B<=g/\g<w.heap.size:=by
 rcases h.2 with⟨rfl,h2⟩|⟨g,c,cur,rfl,hb,hh,h3,h4,_⟩
 . omega
 . exact⟨g,c,rfl,h3,by unfold maxLen at h4;omega,hb,Blk.lt (t:=162) (cs:=cur) hh⟩
theorem OIn.alloc (h:OIn w B v l) (o:Obj):OIn (w.alloc o) B v l:=World.ownsRow.alloc h o
theorem OIn.drew (h:OIn w B v l):OIn w.drew B v l:=h
theorem OIn.drewN (h:OIn w B v l) (n:Nat):OIn (w.drewN n) B v l:=h
theorem OIn.below (h:OIn w B v l) (hb:Below w.heap.size w w'):OIn w' B v l:=by
 refine⟨h.1,?_⟩;rcases h.2 with h2|⟨g,cap,cur,e1,e2,e3,e4⟩
 . exact .inl h2
 . refine .inr ⟨g,cap,cur,e1,e2,?_,e4⟩;rw [hb.block g (Blk.lt (t:=162) (cs:=cur) e3)];exact e3
theorem OIn.lt (h:OIn w B v l):∀ g,v.ownBlock=some g->B<=g:=λ g hg=>(World.ownsRow.lt h g hg).1
theorem Yq2 {ops:Array Oper} {rest:List Oper} {o:Oper} {a:Act} {Q:Exit->Act->World->Prop} (hgd:o.guard=none) (s x:Operand)
 (ho:o.op= .call {callee:= .builtin .append,args:=#[s,x],argTypes:=#[129,129]})
 (h:OIn w B v l) (hs:a.eval s=v) (i:In) {N:Nat} (hx:a.eval x= .slice (some ⟨N,0,none⟩) 1 1) (hN:N=w.heap.size) (hlen:l.length<=1000000) (hB:B<=w.heap.size)
 (hK:∀ v' w',OIn w' B v' (l++ [i])->Grew w w' v v'->wpList Tryz.prog ops Q rest (a.put o.dst v') w'):
 wpList Tryz.prog ops Q (o::rest) a (w.alloc (.cells #[.int .i64 i.k,.int .i64 i.a,.int .i64 i.b,.int .u64 (i.s.a:Int),.int .u64 (i.s.b:Int),.int .u64 (i.s.c:Int),.int .u64 (i.s.d:Int)] 162)):=by
 subst hN;obtain⟨i0,hi0,hz0,hz1,hz2⟩:=info_parts y18
 exact zM8 (P:=Tryz.prog) (Q:=Q) (rest:=rest) (ops:=ops) hgd s x ho Tryz.underlying129 hi0 hz0 hz1 hz2 rfl (by decide) h hs i.cs 1 1 hx rfl (by
  intro u hu;simp only [In.cs,inCs,List.mem_cons,List.not_mem_nil,or_false] at hu;rcases hu with rfl|rfl|rfl|rfl|rfl|rfl|rfl<;>rfl) (by unfold maxLen;omega) (by omega) hB λ v' w' h2 h3=>hK v' w' (by unfold OIn;rw [List.length_append,zF2,x91];exact h2) h3
theorem JG2 {ops:Array Oper} {o:Oper} {a:Act} {K:Act->World->Prop} {Q:Exit->Act->World->Prop} {F:Prop} (hgd:o.guard=none) (s x:Operand)
 (ho:o.op= .call {callee:= .builtin .append,args:=#[s,x],argTypes:=#[129,129]})
 (h:OIn w B v l) (hs:a.eval s=v) (i:In) {N:Nat} (hx:a.eval x= .slice (some ⟨N,0,none⟩) 1 1) (hN:N=w.heap.size) (hlen:l.length<=1000000) (hB:B<=w.heap.size)
 (hK:∀ v' w',OIn w' B v' (l++ [i])->Grew w w' v v'->K (a.put o.dst v') w'):
 if Region.wanted o (yielded ops a.tmps)=true then Oper.wp Tryz.prog o a (w.alloc (.cells #[.int .i64 i.k,.int .i64 i.a,.int .i64 i.b,.int .u64 (i.s.a:Int),.int .u64 (i.s.b:Int),.int .u64 (i.s.c:Int),.int .u64 (i.s.d:Int)] 162)) K Q else F:=by
 subst hN;obtain⟨i0,hi0,hz0,hz1,hz2⟩:=info_parts y18
 exact xP0 (P:=Tryz.prog) (Q:=Q) (ops:=ops) hgd s x ho Tryz.underlying129 hi0 hz0 hz1 hz2 rfl (by decide) h hs i.cs 1 1 hx rfl (by
  intro u hu;simp only [In.cs,inCs,List.mem_cons,List.not_mem_nil,or_false] at hu;rcases hu with rfl|rfl|rfl|rfl|rfl|rfl|rfl<;>rfl) (by unfold maxLen;omega) (by omega) hB λ v' w' h2 h3=>hK v' w' (by unfold OIn;rw [List.length_append,zF2,x91];exact h2) h3
end
theorem OIn.store {w:World} {B g cap n:Nat} {l m:List In} {i i':In} (h:OIn w B (.slice (some ⟨g,0,none⟩) n cap) (l++i::m)) (hn:n=(l++i::m).length) (j:Nat) (u:Value) (hj:j<7) (hc:i.cs.set j u=i'.cs):
 OIn (w.setCell ⟨g,l.length*7+j,none⟩ u) B (.slice (some ⟨g,0,none⟩) n cap) (l++i'::m)/\Grew w (w.setCell ⟨g,l.length*7+j,none⟩ u) (.slice (some ⟨g,0,none⟩) n cap) (.slice (some ⟨g,0,none⟩) n cap):=by
 subst hn;obtain⟨h1,h2⟩:=World.ownsRow.stored h (l.length*7+j) u;rw [jR8 l i i' m j u hj hc] at h1;refine⟨?_,⟨h2,.inl rfl⟩⟩;unfold OIn
 simpa using h1
theorem OIn.at_ {w:World} {B g cap n:Nat} {l:List In} (h:OIn w B (.slice (some ⟨g,0,none⟩) n cap) l) (hn:n=l.length) {k j:Nat} {i:In} (hk:l[k]? =some i) (hj:j<7):w.cell? ⟨g,k*7+j,none⟩=i.cs[j]? /\w.frozen? ⟨g,k*7+j,none⟩=false:=by
 subst hn;obtain⟨hk',_⟩:=List.getElem?_eq_some_iff.1 hk;exact⟨(World.ownsRow.cellAt h _ (by omega)).trans (yq5 hk hj),World.ownsRow.frozenAt h _⟩
end Go.Proofs.YtngepacmgabmaaaGreatDoor
