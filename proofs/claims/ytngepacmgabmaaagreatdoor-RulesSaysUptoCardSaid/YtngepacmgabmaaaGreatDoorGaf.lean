/- Walk: (*wickref.text).class. (printed by gen_rfg.py) -/
import Derived.Test.YtngepacmgabmaaaGreatDoorGad
import Derived.Test.YtngepacmgabmaaaGreatDoorGae
namespace Go.Proofs.YtngepacmgabmaaaGreatDoor
open Go.RowKit
set_option linter.unusedVariables false
set_option linter.unusedSimpArgs false
theorem Tq.far4 {m:Int} {w:World} {g gg:Nat} {s:ByteArray} {y:Sx} {op:Int} (h:Tq m w g s y op) (hne:gg≠g) (q:Q4):Tq m ((((w.setCell ⟨gg,0,none⟩ (.int .u64 (q.a:Int))).setCell ⟨gg,1,none⟩ (.int .u64 (q.b:Int))).setCell ⟨gg,2,none⟩ (.int .u64 (q.c:Int))).setCell ⟨gg,3,none⟩ (.int .u64 (q.d:Int))) g s y op:=by
 obtain⟨a,r,h,k⟩:=h;exact⟨a,r,Blk.far4 h hne q,k⟩
structure Cy (w:World) (g gN gA:Nat) (s:ByteArray) (x:Sx) (op:Int) (iv:Bool) (f:Nat->Bool) (wr:World):Prop where
 rd:Tq 215 wr g s x op
 re:SBlk wr w.heap.size ⟨0,0,0,0⟩
 ng:Blk wr gN 4 #[.bool iv]
 ar:BoR wr gA 256 f
 ko:KeptOff w wr g
 lt:g<w.heap.size
 l1:w.heap.size<gN
 l2:gN<gA
section
variable {w wr wr':World} {g gN gA:Nat} {s:ByteArray} {x x':Sx} {op:Int} {iv:Bool} {f f':Nat->Bool}
theorem Cy.step (h:Cy w g gN gA s x op iv f wr) (hb:Below wr.heap.size wr wr'):Cy w g gN gA s x op iv f wr':=⟨h.rd.below hb,Blk.below h.re hb (Blk.lt h.re),Blk.below h.ng hb (Blk.lt h.ng),h.ar.kept hb,h.ko.tr (KeptOff.of_below hb),h.lt,h.l1,h.l2⟩
theorem KeptOff.bor {w w':World} {g b N:Nat} {f:Nat->Bool} (h:KeptOff w w' g) (hb:BoR w b N f) (hne:b≠g):BoR w' b N f:=by
 have hk:=h.block b hb.lt (by intro e;injection e with e;exact hne e);refine⟨Nat.lt_of_lt_of_le hb.lt h.size,λ i hi=> ?_,λ i hi=> ?_⟩
 . rw [<-hb.cell i hi];unfold World.cell?;rw [hk]
 . rw [<-hb.frozen i hi];unfold World.frozen?;rw [hk]
theorem Cy.kept {m:Int} (h:Cy w g gN gA s x op iv f wr) (hr:Tq m wr' g s x' op) (hm:m<=215) (hk:KeptOff wr wr' g):Cy w g gN gA s x' op iv f wr':=⟨hr.more hm,hk.blk h.re (by have:=h.lt;omega),hk.blk h.ng (by have:=h.lt;have:=h.l1;omega),hk.bor h.ar (by have:=h.lt;have:=h.l1;have:=h.l2;omega),h.ko.tr hk,h.lt,h.l1,h.l2⟩
theorem Cy.up (h:Cy w g gN gA s x op iv f wr) (he:x.e=0) (hm:(x.p:Int)+1<=215):Cy w g gN gA s x.up op iv f (wr.setCell ⟨g,1,none⟩ (.int .i64 ((x.p:Int)+1))):=by
 have h1:=h.lt;have h2:=h.l1;have h3:=h.l2;exact⟨h.rd.up he hm,Blk.far h.re (by dsimp only;omega) _,Blk.far h.ng (by dsimp only;omega) _,h.ar.far (by dsimp only;omega) _,h.ko.set_ 1 _,h.lt,h.l1,h.l2⟩
theorem Cy.bit (h:Cy w g gN gA s x op iv f wr) {k:Nat} (hk:k<256) (v:Bool):Cy w g gN gA s x op iv (λ j=>if j=k then v else f j) (wr.setCell ⟨gA,k,none⟩ (.bool v)):=by
 have h1:=h.lt;have h2:=h.l1;have h3:=h.l2;obtain⟨a,r,ht,hq⟩:=h.rd;exact⟨⟨a,r,Blk.far ht (by dsimp only;omega) _,hq⟩,Blk.far h.re (by dsimp only;omega) _,Blk.far h.ng (by dsimp only;omega) _,h.ar.set_ hk v,h.ko.new_ (p:=⟨gA,k,none⟩) (by dsimp only;omega) _,h.lt,h.l1,h.l2⟩
theorem Cy.same (h:Cy w g gN gA s x op iv f wr) (e:∀ i,i<256->f i=f' i):Cy w g gN gA s x op iv f' wr:=⟨h.rd,h.re,h.ng,h.ar.congr e,h.ko,h.lt,h.l1,h.l2⟩
end
def CsRes (s:ByteArray) (x:Sx) (op:Int) (g:Nat) (w:World) (e:Ending) (w':World):Prop:=∃ q:Q4,e= .returned (.agg #[.int .u64 (q.a:Int),.int .u64 (q.b:Int),.int .u64 (q.c:Int),.int .u64 (q.d:Int)])/\q.ok/\((cls s x).2.e=0->q=(cls s x).1)/\Tq 220 w' g s (cls s x).2 op/\KeptOff w w' g
theorem qE1 {s:ByteArray} {x:Sx} (he:x.e=0):(gr s x).isSome=true<->nx s x=92/\x.p+1<s.size/\(nx s x.up=100\/nx s x.up=119\/nx s x.up=115):=by
 have hlt:0<=nx s x.up->x.p+1<s.size:=λ h=>(Jo0 (x:=x.up) h).2
 unfold gr;split
 . rename_i h92
   split
   . rename_i h;exact⟨λ _=>⟨h92,hlt (by omega),.inl h⟩,λ _=>rfl⟩
   . split
     . rename_i h;exact⟨λ _=>⟨h92,hlt (by omega),.inr (.inl h)⟩,λ _=>rfl⟩
     . split
       . rename_i h;exact⟨λ _=>⟨h92,hlt (by omega),.inr (.inr h)⟩,λ _=>rfl⟩
       . rename_i h1 h2 h3
         exact⟨λ h=>(by cases h),λ h=>by rcases h.2.2 with h|h|h<;>contradiction⟩
 . rename_i h;exact⟨λ k=>(by cases k),λ k=>absurd k.1 h⟩
theorem J39 {s:ByteArray} {x:Sx} (he:x.e=0) (h:(gr s x).isSome=true):ch s x=(0,⟨x.p+1,3⟩):=by
 obtain⟨h1,_,h2⟩:=(qE1 he).1 h;have hf:x.up.fl 3=⟨x.p+1,3⟩:=if_pos he;unfold ch;rw [if_pos h1,if_neg (by omega),if_neg (by omega),if_neg (by omega),if_neg (by omega),if_neg,hf];rintro⟨_,k⟩;rcases h2 with h|h|h<;>rw [h] at k<;>revert k<;>decide
set_option maxRecDepth 100000 in
set_option maxHeartbeats 16000000 in
theorem Xm3 (s:ByteArray) (hs:s.size<=200) (x0:Sx) (m0 op:Int) (g:Nat) (w:World) (he:x0.e=0) (hp:x0.p<=s.size) (hR:Tq m0 w g s x0 op):
 Calls Tryz.prog 211 #[.pointer (some ⟨g,0,none⟩)] w (CsRes s x0 op g w):=by
 obtain⟨r,hT⟩:=hR.at0 he;have hglt:=hR.lt;clear hR;obtain⟨W,hW⟩:∃ W,w.alloc (.cells #[.int .u64 0,.int .u64 0,.int .u64 0,.int .u64 0] 122)=W:=⟨_,rfl⟩;have HWT:Hid (Tq 215 W g s x0 op):=qh (Tq.of0 (r:=r) (by rw [<-hW];exact Blk.alloc hT _) he (by omega));have HWS:Hid (SBlk W w.heap.size ⟨0,0,0,0⟩):=qh (by rw [<-hW];exact SBlk.new w);have HWK:Hid (KeptOff w W g):=qh (by rw [<-hW];exact KeptOff.refl.alloc _);have hWz:w.heap.size<W.heap.size:=by rw [<-hW];simp
 have CP0:=qh (YF5 s hs 215 x0 op g W HWT.out);obtain⟨x1,hx1⟩:∃ x1,x1=tkX s x0 94:=⟨_,rfl⟩;have hx1':x1=if nx s x0=94 then x0.up else x0:=hx1
 have hx1e:x1.e=0:=by rw [hx1'];split<;>exact he
 have hx1p:x1.p<=s.size:=by
  rw [hx1'];split
  . exact(kx8 (s:=s) (by omega)).hi
  . exact hp
 obtain⟨iv,hiv⟩:∃ iv,iv=(nx s x0==94):=⟨_,rfl⟩;obtain⟨F,hF⟩:∃ F,F=clL s (s.size+1) true (λ _=>false) x1:=⟨_,rfl⟩
 have hcls:cls s x0=(mkQ (if iv=true then λ b=> !F.1 b else F.1),tkX s (if (mkQ (if iv=true then λ b=> !F.1 b else F.1)).zero=true then F.2.fl 3 else F.2) 93):=by
  unfold cls;rw [<-hx1',<-hF]
  have e:(if nx s x0=94 then λ b=> !F.1 b else F.1)=(if iv=true then λ b=> !F.1 b else F.1):=by
   rw [hiv];by_cases h:nx s x0=94
   . rw [if_pos h,if_pos (beq_iff_eq.2 h)]
   . rw [if_neg h,if_neg (by rw [beq_iff_eq];exact h)]
  dsimp only;rw [e];rfl
 have HC:=qh hcls;have HF:=qh hF;have e94:((pk s x0).toList== [94])=iv:=by rw [Xj2,hiv];rfl
 have HX1':=qh hx1';have HIV:=qh hiv;clear hx1 hx1' hiv hF hcls;go_enter Tryz.func211,Tryz.ntmps211;go_wp2_with fail;refine CP0.out.mono ?_;rintro e w1 ⟨rfl,qq,hqq⟩;have hb1:Below W.heap.size W w1:=by rw [hqq];exact below_drewN (Below.refl _ _) qq
 have hz1:W.heap.size<=w1.heap.size:=hb1.size;have hba:Below w1.heap.size w1 (w1.alloc (.cells #[.bool iv] 4)):=(Below.refl _ _).alloc (Nat.le_refl _) _;have ht2:Tq 215 (w1.alloc (.cells #[.bool iv] 4)) g s x0 op:=(HWT.out.below hb1).below hba;have hs2:SBlk (w1.alloc (.cells #[.bool iv] 4)) w.heap.size ⟨0,0,0,0⟩:=Blk.alloc (Blk.below HWS.out hb1 (Blk.lt HWS.out)) _;have hk2:KeptOff w (w1.alloc (.cells #[.bool iv] 4)) g:=(HWK.out.tr (KeptOff.of_below hb1)).alloc _;have hn2:Blk (w1.alloc (.cells #[.bool iv] 4)) w1.heap.size 4 #[.bool iv]:=Blk.new w1 _ _;clear hqq hb1 hba hW hT;go_upto_region 2 with fail;obtain⟨w2,hw2⟩:∃ w2,w1.alloc (.cells #[.bool iv] 4)=w2:=⟨_,rfl⟩;have hzN:w1.heap.size<w2.heap.size:=by rw [<-hw2];simp
 rw [hw2] at ht2 hs2 hk2 hn2⊢;obtain⟨gN,hgN⟩:∃ gN,w1.heap.size=gN:=⟨_,rfl⟩;rw [hgN] at hn2 hz1 hzN⊢;clear hw2 hgN;have n0:=Blk.e0 hn2;have HH:Hid (Tq 215 w2 g s x0 op/\SBlk w2 w.heap.size ⟨0,0,0,0⟩/\KeptOff w w2 g/\Blk w2 gN 4 #[.bool iv]):=qh ⟨ht2,hs2,hk2,hn2⟩;obtain⟨r2,hr2⟩:=ht2.at0 he;obtain⟨c0,c1,c2,c3,c4⟩:=hr2.facts;have cf1:=hr2.froz 1;clear ht2 hs2 hk2 hn2 hr2;have hKEY:∀ w4,Tq 215 w4 g s x1 op->SBlk w4 w.heap.size ⟨0,0,0,0⟩->KeptOff w w4 g->Blk w4 gN 4 #[.bool iv]->Cy w g gN w4.heap.size s x1 op iv (λ _=>false) (w4.alloc (.cells Tryz.zeroCells172 172)):=λ w4 h1 h2 h3 h4=>⟨h1.alloc _,Blk.alloc h2 _,Blk.alloc h4 _,QK9 w4,h3.alloc _,hglt,by omega,Blk.lt h4⟩
 have HKEY:=qh hKEY;clear hKEY;go_upto_if 18 with fail;go_cut [] from 19 to 25 (λ wx=>Hid (Tq 215 wx g s x1 op)/\Hid (SBlk wx w.heap.size ⟨0,0,0,0⟩)/\Hid (KeptOff w wx g)/\Hid (Blk wx gN 4 #[.bool iv])/\gN<wx.heap.size)
 case first=>
  cases iv with
  |true=>
   have hx1u:x1=x0.up:=(by rw [HX1'.out];exact if_pos (by have h:=HIV.out;rw [eq_comm,beq_iff_eq] at h;exact h));have hwp:IntKind.i64.wrap ((x0.p:Int)+1)=(x0.p:Int)+1:=IntWalk.i64_in _ (by omega);have HT4:Hid (Tq 215 (w2.setCell ⟨g,1,none⟩ (.int .i64 ((x0.p:Int)+1))) g s x1 op):=qh (by rw [hx1u];exact HH.out.1.up he (by omega));have HS4:Hid (SBlk (w2.setCell ⟨g,1,none⟩ (.int .i64 ((x0.p:Int)+1))) w.heap.size ⟨0,0,0,0⟩):=qh (Blk.far HH.out.2.1 (by dsimp only;omega) _);have HK4:Hid (KeptOff w (w2.setCell ⟨g,1,none⟩ (.int .i64 ((x0.p:Int)+1))) g):=qh (HH.out.2.2.1.set_ 1 _);have HN4:Hid (Blk (w2.setCell ⟨g,1,none⟩ (.int .i64 ((x0.p:Int)+1))) gN 4 #[.bool true]):=qh (Blk.far HH.out.2.2.2 (by dsimp only;omega) _);clear hx1u;go_wp2_with fail;go_meet;exact⟨HT4,HS4,HK4,HN4,by simpa [World.setCell] using hzN⟩
  |false=>
   have hx1u:x1=x0:=(by rw [HX1'.out];exact if_neg (by have h:=HIV.out;rw [eq_comm,beq_eq_false_iff_ne] at h;exact h));have HT4:Hid (Tq 215 w2 g s x1 op):=qh (by rw [hx1u];exact HH.out.1);have HS4:=qh HH.out.2.1;have HK4:=qh HH.out.2.2.1;have HN4:=qh HH.out.2.2.2;clear hx1u;go_wp2_with fail;go_meet;exact⟨HT4,HS4,HK4,HN4,hzN⟩
 case rest=>
  obtain⟨HT4,HS4,HK4,HN4,hzc⟩:=hcut;clear c0 c1 c2 c3 c4 cf1 n0;obtain⟨w4,rfl⟩:∃ w4:World,w4=wc:=⟨_,rfl⟩;have HCx:=qh (HKEY.out w4 HT4.out HS4.out HK4.out HN4.out);go_upto_block 0 with fail;obtain⟨gA,hgA⟩:∃ gA,w4.heap.size=gA:=⟨_,rfl⟩;rw [hgA] at HCx⊢;obtain⟨W1,hW1⟩:∃ W1,w4.alloc (.cells Tryz.zeroCells172 172)=W1:=⟨_,rfl⟩;rw [hW1] at HCx⊢;clear hW1 hgA HT4 HS4 HK4 HN4 HKEY HH HWT HWS HWK;go_cut [5,6,7,8,9,10,11,12,13] from 26 to 142 (λ _ _ _ _ _ _ _ _ _ wx=>∃ fl,F.2.p<=s.size/\Hid (F.2.e=0->F.1=fl/\nx s F.2=93)/\Hid (Cy w g gN gA s F.2 op iv fl wx))
  case first=>
   go_wp2_with fail;go_loopw [5] (λ n wr=>∃ (m nn:Nat) (f:Nat->Bool) (x:Sx),n= .int .i64 nn/\nn+m=s.size+1/\(x.e=0->nn<=x.p)/\x.p<=s.size/\Hid (x.e=0->F=clL s m (nn==0) f x)/\Hid (¬x.e=0->F.2=x)/\Hid (Cy w g gN gA s x op iv f wr)) (λ n _=>s.size+1-(intOf n).toNat)
   case atStart=>exact⟨s.size+1,0,λ _=>false,x1,rfl,by omega,λ _=>by omega,hx1p,qh (λ _=>HF.out),qh (λ k=>absurd hx1e k),HCx⟩
   case round=>
    obtain⟨m,nn,f,x,rfl,hm,hnp,hxp,HFx,HF0,HX⟩:=hrel;clear HCx HF hx1e;go_upto_region 6 with fail;go_cut [39] from 26 to 38 (λ cv wx=>∃ b:Bool,cv= .bool b/\(b=true->x.e=0/\(nn=0\/¬nx s x=93))/\(b=false->¬x.e=0\/(¬nn=0/\nx s x=93))/\Hid (Cy w g gN gA s x op iv f wx))
    case first=>
     obtain⟨aa,rr,htt,hta,htr,ht0,ht1⟩:=HX.out.rd;obtain⟨c0,c1,c2,c3,c4⟩:=htt.facts;have CN:=qh (YF5 s hs 215 x op g wr HX.out.rd);clear htt hta htr ht0 ht1 HFx HF0;by_cases hxe:x.e=0
     . rw [hxe] at c3;have HXE:=qh hxe;by_cases h0:nn=0
       . have fn:((nn:Int)==0)=true:=(by rw [beq_iff_eq];omega);have H0:=qh h0;clear h0 hxe hnp;go_wp2_with fail;go_meet;exact⟨true,rfl,λ _=>⟨HXE.out,.inl H0.out⟩,(λ k=>by cases k),HX⟩
       . have fn:((nn:Int)==0)=false:=(by rw [beq_eq_false_iff_ne];omega);have H0:=qh h0;by_cases h93:nx s x=93
         focus
          have H93:=qh h93;have e93:((pk s x).toList== [93])=true:=by rw [Xj2];exact beq_iff_eq.2 h93
         rotate_left
         focus
          have H93:=qh h93;have e93:((pk s x).toList== [93])=false:=by rw [Xj2];exact beq_eq_false_iff_ne.2 h93
         rotate_left
         all_goals
          clear h93 h0 hxe hnp;go_wp2_with fail;refine CN.out.mono ?_;rintro e w2 ⟨rfl,qq,hqq⟩;have HX2:=qh (HX.out.step (wr':=w2) (by rw [hqq];exact below_drewN (Below.refl _ _) qq));clear hqq;go_wp2_with fail;go_meet
         . exact⟨false,rfl,(λ k=>by cases k),λ _=> .inr ⟨H0.out,H93.out⟩,HX2⟩
         . exact⟨true,rfl,λ _=>⟨HXE.out,.inr H93.out⟩,(λ k=>by cases k),HX2⟩
     . have f3:(x.e==0)=false:=(by rw [beq_eq_false_iff_ne];exact hxe);have HXE:=qh hxe;clear hxe hnp;go_wp2_with fail;go_meet;exact⟨false,rfl,(λ k=>by cases k),λ _=> .inl HXE.out,HX⟩
    case rest=>
     obtain⟨b,rfl,hb1,hb0,HXc⟩:=hcut;obtain⟨wr2,rfl⟩:∃ wr2:World,wr2=wc:=⟨_,rfl⟩;cases b with
     |true=>
      obtain⟨hxe,hgo⟩:=hb1 rfl;have hnn:=hnp hxe;obtain⟨m,rfl⟩:∃ m',m=m'+1:=⟨m-1,by omega⟩;have hcond:x.e=0/\((nn==0)=true\/¬nx s x=93):=⟨hxe,by rcases hgo with h|h;exact .inl (by rw [h];rfl);exact .inr h⟩;have H5:=HXc;clear hgo hb1 hb0 HXc HX;have CIt:=qh (qe9 s hs x 215 op g wr2 hxe hxp H5.out.rd);have hwn:IntKind.i64.wrap ((nn:Int)+1)=(nn:Int)+1:=IntWalk.i64_in _ (by omega);go_wp2_with fail;refine CIt.out.mono ?_;rintro e w6 ⟨lo,pl,q,rfl,hq,hk6,hcase⟩;rcases hcase with⟨gf,hgf,rfl,hqs,htq⟩|⟨hgn,⟨hl0,hl1⟩,hlv,htq⟩
      . have H6:=qh (H5.out.kept htq (by decide) hk6);have H7:=qh (H6.out.step ((Below.refl _ _).alloc (Nat.le_refl _) (.cells #[.int .u64 (q.a:Int),.int .u64 (q.b:Int),.int .u64 (q.c:Int),.int .u64 (q.d:Int)] 122)));have hs7:=SBlk.lit w6 q;have hgA:gA<w6.heap.size:=H6.out.ar.lt;have hG:=yP3 hgf;have HFs:Hid (x.up.up.e=0->F=clL s m ((nn+1:Nat)==0) (λ b=>f b||gf b) x.up.up):=qh λ _=>by rw [HFx.out hxe];exact ZE7 hcond hgf
        have HQ:=qh hqs;clear htq hk6 hq hgf hqs H5;go_upto_region 10 with fail;obtain⟨w8,hw8⟩:∃ w8,w6.alloc (.cells #[.int .u64 (q.a:Int),.int .u64 (q.b:Int),.int .u64 (q.c:Int),.int .u64 (q.d:Int)] 122)=w8:=⟨_,rfl⟩;rw [hw8] at H7 hs7⊢;obtain⟨gS,hgS⟩:∃ gS,w6.heap.size=gS:=⟨_,rfl⟩;rw [hgS] at hs7 hgA⊢;have H8:=H7;have HS8:=qh hs7;clear hw8 hgS H6 H7 hs7;have HY8:=H8;go_wp2_with fail;go_loopw [9] (λ kv wr=>∃ k:Nat,kv= .int .i64 (k:Int)/\k<=256/\Hid (Cy w g gN gA s x.up.up op iv (λ b=>f b||(decide (b<k)&&k32 q b)) wr)/\Hid (SBlk wr gS q)) (λ kv _=>256-(intOf kv).toNat)
        case atStart=>exact⟨0,rfl,by omega,qh (H8.out.same λ i _=>by simp),HS8⟩
        case round=>
         clear H8 HS8 HY8;obtain⟨k,rfl,hk,HC,HS⟩:=hrel;by_cases hk2:k<256
         . have i0:(0:Int)<=(k:Int):=(by omega);have i1:(k:Int)<256:=(by omega);have hkw:IntKind.i64.wrap ((k:Int)+1)=(k:Int)+1:=IntWalk.i64_in _ (by omega);have hyk:(f k||(decide (k<k)&&k32 q k))=f k:=(by rw [decide_eq_false (Nat.lt_irrefl _)];simp);have y0:=HC.out.ar.cell k hk2;have y1:=HC.out.ar.frozen k hk2;rw [hyk] at y0;clear hyk;cases hv:f k
           focus
            rw [hv] at y0;have CI:=qh (jg2 q k (by omega) wr);obtain⟨s0,s1,s2,s3⟩:=Blk.c4 HS.out;have HV:=qh hv;clear hv;go_wp2_with fail;refine CI.out.mono ?_;rintro e w9 ⟨rfl,hb9⟩;have HC9:=qh (HC.out.step hb9);have HS9:Hid (SBlk w9 gS q):=qh (Blk.below HS.out hb9 (Blk.lt HS.out));have y2:=HC9.out.ar.frozen k hk2;have y3:=HC9.out.ar.cell k hk2
            have HN:Hid (Cy w g gN gA s x.up.up op iv (λ b=>f b||(decide (b<k+1)&&k32 q b)) (w9.setCell ⟨gA,k,none⟩ (.bool (k32 q k)))):=qh ((HC9.out.bit hk2 (k32 q k)).same λ i hi=>by
             by_cases e:i=k
             . subst e;rw [if_pos rfl,HV.out,decide_eq_true (Nat.lt_succ_self _)];simp
             . rw [if_neg e];congr 2;rw [Bool.eq_iff_iff,decide_eq_true_eq,decide_eq_true_eq];omega)
            have HSN:Hid (SBlk (w9.setCell ⟨gA,k,none⟩ (.bool (k32 q k))) gS q):=qh (Blk.far HS9.out (by dsimp only;omega) _);clear hb9
           rotate_left
           focus
            rw [hv] at y0
            have HN:Hid (Cy w g gN gA s x.up.up op iv (λ b=>f b||(decide (b<k+1)&&k32 q b)) (wr.setCell ⟨gA,k,none⟩ (.bool true))):=qh ((HC.out.bit hk2 true).same λ i hi=>by
             by_cases e:i=k
             . subst e;rw [if_pos rfl,hv];rfl
             . rw [if_neg e];congr 2;rw [Bool.eq_iff_iff,decide_eq_true_eq,decide_eq_true_eq];omega)
            have HSN:Hid (SBlk (wr.setCell ⟨gA,k,none⟩ (.bool true)) gS q):=qh (Blk.far HS.out (by dsimp only;omega) _);clear hv
           all_goals
            go_wp2_with fail;go_roundw
            case rel=>exact⟨k+1,by go_num,by omega,HN,HSN⟩
            case measure=>simp [intOf];omega
         . obtain rfl:k=256:=(by omega);have HC2:Hid (Cy w g gN gA s x.up.up op iv (λ b=>f b||gf b) wr):=qh (HC.out.same λ i hi=>by rw [decide_eq_true hi,Bool.true_and,HQ.out.2 i hi]);clear HC HS hk2;go_wp2_with fail;go_roundw
           case rel=>exact⟨m,nn+1,(λ b=>f b||gf b),x.up.up,by go_num,by omega,(λ k=>by have:=hG.ok k;omega),hG.hi,HFs,(qh λ k=>absurd hxe k),HC2⟩
           case measure=>(simp [intOf];try omega)
      . obtain⟨lo,rfl⟩:∃ lo':Nat,lo=(lo':Int):=⟨lo.toNat,by omega⟩;have hlo255:lo<=255:=(by omega);have hgy:=Q44 s x hxp;obtain⟨y,hy⟩:∃ y,y=(ch s x).2:=⟨_,rfl⟩;rw [<-hy] at hgy hlv htq;have HGN:=qh hgn;have H6:=qh (H5.out.kept htq (by decide) hk6);have H7:=qh (H6.out.step ((Below.refl _ _).alloc (Nat.le_refl _) (.cells #[.int .u64 (q.a:Int),.int .u64 (q.b:Int),.int .u64 (q.c:Int),.int .u64 (q.d:Int)] 122)));have d6:decide ((lo:Int)<0)=false:=decide_eq_false (by omega);have d6n:¬(lo:Int)<0:=(by omega);clear htq hk6 hq hgn;go_upto_region 14 with fail;obtain⟨w7,hw7⟩:∃ w7,w6.alloc (.cells #[.int .u64 (q.a:Int),.int .u64 (q.b:Int),.int .u64 (q.c:Int),.int .u64 (q.d:Int)] 122)=w7:=⟨_,rfl⟩;rw [hw7] at H7⊢;clear hw7 H5 H6;have CP7:=qh (YF5 s hs 215 y op g w7 H7.out.rd);by_cases h45:nx s y=45
        . have hys:=Jo0 (s:=s) (x:=y) (by omega);have hye:=hys.1;have hyl:=hys.2;have hlv':=hlv hye;have HFy:Hid (F=clL s m false (λ b=>f b||J03 (lo:Int) (ch s y.up).1 b) (if (ch s y.up).1<(lo:Int)/\(ch s y.up).2.e=0 then ⟨y.p+1,3⟩ else (ch s y.up).2)):=qh (by rw [HFx.out hxe];exact(zH4 hcond HGN.out (by rw [<-hy];exact h45)).trans (by rw [<-hy,<-hlv']));have e45:((pk s y).toList== [45])=true:=(by rw [Xj2];exact beq_iff_eq.2 h45);have hgu:=hgy.tr (kx8 (s:=s) (x:=y) (by omega));have hue:y.up.e=0:=hye;have hup1:y.up.p=y.p+1:=rfl;have HYC:Hid (((y.p:Int)+1)=((y.p+1:Nat):Int)):=qh (by omega);clear h45 hy hlv hlv' hys;go_wp2_with fail;refine CP7.out.mono ?_;rintro e w8 ⟨rfl,qq,hqq⟩;have H8:=qh (H7.out.step (wr':=w8) (by rw [hqq];exact below_drewN (Below.refl _ _) qq));clear hqq;obtain⟨rr,hrr⟩:=H8.out.rd.at0 hye;obtain⟨c0,c1,c2,c3,c4⟩:=hrr.facts;have cf1:=hrr.froz 1;have hwp:IntKind.i64.wrap ((y.p:Int)+1)=(y.p:Int)+1:=IntWalk.i64_in _ (by omega);have Hu:=qh (H8.out.up hye (by omega));clear hrr;go_upto_region 17 with fail;obtain⟨w9,hw9⟩:∃ w9,w8.setCell ⟨g,1,none⟩ (.int .i64 ((y.p:Int)+1))=w9:=⟨_,rfl⟩;rw [hw9] at Hu⊢;clear hw9 H7 H8 c0 c1 c2 c3 c4 cf1 CP7;obtain⟨rr,hrr⟩:=Hu.out.rd.at0 hue;obtain⟨c0,c1,c2,c3,c4⟩:=hrr.facts;have HTT:=qh hrr;have c1:w9.cell? ⟨g,1,none⟩=some (.int .i64 ((y.p:Int)+1)):=(by rw [HYC.out];exact c1);have hwp2:IntKind.i64.wrap ((y.p:Int)+1+1)=(y.p:Int)+2:=(IntWalk.i64_in _ (by omega)).trans (by omega);clear hrr;go_upto_region 19 with fail;have CPn:Hid (∀ n,Calls Tryz.prog 148 #[.pointer (some ⟨g,0,none⟩)] (w9.drewN n) λ e w''=>e= .returned (.string (pk s y.up))/\∃ k,w''=w9.drewN k):=qh λ n=>(YF5 s hs 215 y.up op g _ (Hu.out.rd.drewN n)).mono λ e w'' h=>⟨h.1,by obtain⟨q,hq⟩:=h.2;exact⟨_,hq.trans (World.drewN_drewN _ _ _)⟩⟩
          by_cases hmany:(gr s y.up).isSome=true
          . obtain⟨hm92,hmlt,hm3⟩:=(qE1 hue).1 hmany;have hchm:=J39 hue hmany
            have HF2:Hid (F.2=⟨y.p+2,3⟩):=qh (by
             rw [HFy.out,hchm,if_neg (λ k=>absurd k.2 (show ¬(3:Int)=0 by decide))];rw [Xm2 _ (λ k=>absurd k.1 (show ¬(3:Int)=0 by decide))];rfl)
            have e92:((pk s y.up).toList== [92])=true:=(by rw [Xj2];exact beq_iff_eq.2 hm92);have hm2:y.p+2<s.size:=(by rw [hup1] at hmlt;omega);have hnx2:nx s y.up.up=(s[y.p+2].toNat:Int):=KA1 (x:=y.up.up) hue hm2;have i0:(0:Int)<=(y.p:Int)+2:=(by omega);have i1:(y.p:Int)+2<(s.size:Int):=(by omega);have i1d:decide ((y.p:Int)+2<(s.size:Int))=true:=decide_eq_true i1;have i2:((y.p:Int)+2).toNat=y.p+2:=(by omega);have hwp3:IntKind.i64.wrap ((y.p:Int)+2)=(y.p:Int)+2:=IntWalk.i64_in _ (by omega);have hb256:=s[y.p+2].toNat_lt
            have hhas:yk4 (s[y.p+2].toNat:Int) [100,119,115]=true:=by
             rw [<-hnx2];rcases hm3 with h|h|h<;>rw [h]<;>rfl
            have CI:Hid (∀ n,Calls Tryz.prog 55 #[.int .u8 (s[y.p+2].toNat:Int),.string ⟨#[100,119,115]⟩] (w9.drewN n) λ e w''=>e= .returned (.bool true)/\∃ k,w''=w9.drewN k):=qh λ n=>(Qs9 (s[y.p+2].toNat:Int) ⟨#[100,119,115]⟩ (w9.drewN n) (by decide) (by omega) (by omega)).mono λ e w'' h=>⟨h.1.trans (by rw [show (⟨#[100,119,115]⟩:ByteArray).data.toList= [100,119,115] from rfl,hhas]),⟨n,h.2.symm⟩⟩
            have hm2le:y.p+2<=s.size:=(by omega);clear hmany hm92 hmlt hm3 hchm hhas hnx2 HFy;go_wp2_with fail;go_quiet (first|(go_at_call 148;exact CPn.out _)|(go_at_call 55;exact CI.out _))
            obtain⟨w10,hw10⟩:∃ w10,w9.drewN nq=w10:=⟨_,rfl⟩;rw [hw10];have HV:Hid (Cy w g gN gA s y.up op iv f w10):=qh (by rw [<-hw10];exact Hu.out.step (below_drewN (Below.refl _ _) nq));have HTV:Hid (Tb w10 g s ((y.p+1:Nat):Int) op 0 rr):=qh (by rw [<-hw10];exact HTT.out.drewN nq);clear hw10 Hu HTT c0 c1 c2 c3 c4 CPn;obtain⟨c0,c1,c2,c3,c4⟩:=HTV.out.facts;have c1:w10.cell? ⟨g,1,none⟩=some (.int .i64 ((y.p:Int)+1)):=(by rw [HYC.out];exact c1);go_wp2_with fail;refine(zF3 s _ op rr g w10 3 ((y.p:Int)+2) HTV.out).mono ?_;rintro e w11 ⟨rfl,ht11,hk11⟩;have HW:=qh (HV.out.kept (Tq.bad (m:=215) (p:=y.p+2) ht11 (show ¬(3:Int)=0 by decide) (by omega) (by omega)) (Int.le_refl _) hk11);clear ht11 hk11 HV HTV c0 c1 c2 c3 c4;go_wp2_with fail;go_meet;exact⟨f,by rw [HF2.out];exact hm2le,qh (λ k=>absurd k (by rw [HF2.out];exact(show ¬(3:Int)=0 by decide))),by rw [HF2.out];exact HW⟩
          . have HNM:=qh hmany;by_cases hm92:nx s y.up=92
            . have e92:((pk s y.up).toList== [92])=true:=(by rw [Xj2];exact beq_iff_eq.2 hm92);by_cases hmlt:y.up.p+1<s.size
              focus
               have hm2:y.p+2<s.size:=(by rw [hup1] at hmlt;omega);have hnx2:nx s y.up.up=(s[y.p+2].toNat:Int):=KA1 (x:=y.up.up) hue hm2;have i0:(0:Int)<=(y.p:Int)+2:=(by omega);have i1:(y.p:Int)+2<(s.size:Int):=(by omega);have i1d:decide ((y.p:Int)+2<(s.size:Int))=true:=decide_eq_true i1;have i2:((y.p:Int)+2).toNat=y.p+2:=(by omega);have hwp3:IntKind.i64.wrap ((y.p:Int)+2)=(y.p:Int)+2:=IntWalk.i64_in _ (by omega);have hb256:=s[y.p+2].toNat_lt
               have hhas:yk4 (s[y.p+2].toNat:Int) [100,119,115]=false:=by
                rw [<-hnx2];cases hb:yk4 (nx s y.up.up) [100,119,115] with
                |false=>rfl
                |true=>
                 refine absurd ((qE1 hue).2 ⟨hm92,hmlt,?_⟩) hmany;unfold yk4 at hb;simp at hb;omega
               have CI:Hid (∀ n,Calls Tryz.prog 55 #[.int .u8 (s[y.p+2].toNat:Int),.string ⟨#[100,119,115]⟩] (w9.drewN n) λ e w''=>e= .returned (.bool false)/\∃ k,w''=w9.drewN k):=qh λ n=>(Qs9 (s[y.p+2].toNat:Int) ⟨#[100,119,115]⟩ (w9.drewN n) (by decide) (by omega) (by omega)).mono λ e w'' h=>⟨h.1.trans (by rw [show (⟨#[100,119,115]⟩:ByteArray).data.toList= [100,119,115] from rfl,hhas]),⟨n,h.2.symm⟩⟩
               clear hmany hm92 hmlt hhas hnx2;go_wp2_with fail;go_quiet (first|(go_at_call 148;exact CPn.out _)|(go_at_call 55;exact CI.out _))
              rotate_left
              focus
               have i1d:decide ((y.p:Int)+2<(s.size:Int))=false:=decide_eq_false (by rw [hup1] at hmlt;omega);have i1:¬(y.p:Int)+2<(s.size:Int):=(by rw [hup1] at hmlt;omega);have hwp3:IntKind.i64.wrap ((y.p:Int)+2)=(y.p:Int)+2:=IntWalk.i64_in _ (by omega);clear hmany hm92 hmlt;go_wp2_with fail;go_quiet (first|(go_at_call 148;exact CPn.out _))
              all_goals
               obtain⟨w10,hw10⟩:∃ w10,w9.drewN nq=w10:=⟨_,rfl⟩;rw [hw10];have HV:Hid (Cy w g gN gA s y.up op iv f w10):=qh (by rw [<-hw10];exact Hu.out.step (below_drewN (Below.refl _ _) nq));have HTV:Hid (Tb w10 g s ((y.p+1:Nat):Int) op 0 rr):=qh (by rw [<-hw10];exact HTT.out.drewN nq);clear hw10 Hu HTT c0 c1 c2 c3 c4 CPn;have CI2:=qh (qe9 s hs y.up 215 op g w10 hue hgu.hi HV.out.rd);go_wp2_with fail;refine CI2.out.mono ?_;rintro e w12 ⟨hi,pl2,q2,rfl,hq2,hk12,hcase2⟩;rcases hcase2 with⟨gf,hgf,_⟩|⟨hgn2,⟨hh0,hh1⟩,hhv,htq2⟩
               . exact absurd (by rw [hgf];rfl) HNM.out
               obtain⟨hi,rfl⟩:∃ hi':Nat,hi=(hi':Int):=⟨hi.toNat,by omega⟩;have hhi255:hi<=255:=(by omega);have hgz:=hgu.tr (Q44 s y.up hgu.hi);obtain⟨z,hz⟩:∃ z,z=(ch s y.up).2:=⟨_,rfl⟩;rw [<-hz] at hgz hhv htq2;have HZ:=qh hz;have H12:=qh (HV.out.kept htq2 (by decide) hk12);clear htq2 hk12 hq2 hgn2 hz CI2 HV HTV;by_cases hbad:(hi:Int)<(lo:Int)
               . have d1:decide ((hi:Int)<(lo:Int))=true:=decide_eq_true hbad;have i2:decide ((lo:Int)<=(hi:Int))=false:=decide_eq_false (by omega);have i3:¬(lo:Int)<=(hi:Int):=(by omega);have CW:=qh fun(hp:z.e=0->False)=>hp
                 obtain⟨z2,hz2⟩:∃ z2:Sx,z2=if z.e=0 then ⟨y.p+1,3⟩ else z:=⟨_,rfl⟩
                 have hXe:¬z2.e=0:=by
                  rw [hz2];split
                  . exact(show ¬(3:Int)=0 by decide)
                  . assumption
                 have hz2p:z2.p<=s.size:=by
                  rw [hz2];split
                  . exact hgu.hi
                  . exact hgz.hi
                 have HF2:Hid (¬z2.e=0->F.2=z2):=qh λ _=>by
                  have e:(if (ch s y.up).1<(lo:Int)/\(ch s y.up).2.e=0 then (⟨y.p+1,3⟩:Sx) else (ch s y.up).2)=z2:=by
                   rw [<-HZ.out,hz2];by_cases hze:z.e=0
                   . rw [if_pos hze,if_pos ⟨by rw [<-hhv hze];exact hbad,hze⟩]
                   . rw [if_neg hze,if_neg (λ k=>hze k.2)]
                  rw [HFy.out,e,Xm2 _ (λ k=>hXe k.1)]
                 have CWr:Hid (Calls Tryz.prog 118 #[.pointer (some ⟨g,0,none⟩),.int .i64 3,.int .i64 ((y.p:Int)+1)] w12 λ e w'=>e= .returned (.tuple #[])/\Tq 215 w' g s z2 op/\KeptOff w12 w' g):=qh (by
                  obtain⟨aa,r2,htt,hta,htr,ht0,ht1⟩:=H12.out.rd;by_cases hze:z.e=0
                  . rw [hze] at htt;refine(zF3 s aa op r2 g w12 3 ((y.p:Int)+1) htt).mono ?_;rintro e w' ⟨h1,h2,h3⟩;refine⟨h1,?_,h3⟩;rw [hz2,if_pos hze];exact Tq.bad (p:=y.p+1) (by rw [HYC.out] at h2;exact h2) (show ¬(3:Int)=0 by decide) ht0 ht1
                  . refine(Zg6 s aa op r2 g w12 3 ((y.p:Int)+1) z.e hze htt).mono ?_;rintro e w' ⟨h1,rfl⟩;refine⟨h1,?_,KeptOff.refl⟩;rw [hz2,if_neg hze];exact⟨aa,r2,htt,hta,htr,ht0,ht1⟩)
                 clear hz2 hhv CW;go_wp2_with fail;refine CWr.out.mono ?_;rintro e w13 ⟨rfl,ht13,hk13⟩;have H13:=qh (H12.out.kept ht13 (Int.le_refl _) hk13);clear ht13 hk13 CWr H12;obtain⟨aa,rr,htt,hta,htr,ht0,ht1⟩:=H13.out.rd;obtain⟨c0,c1,c2,c3,c4⟩:=htt.facts;have f3:(z2.e==0)=false:=beq_eq_false_iff_ne.2 hXe;clear htt hta htr ht0 ht1;go_wp2_with fail;go_loopw [13] (λ kv wr=>kv= .int .i64 (lo:Int)/\wr=w13) (λ _ _=>0)
                 case atStart=>exact⟨rfl,rfl⟩
                 case round=>
                  obtain⟨rfl,rfl⟩:=hrel;go_wp2_with fail;go_roundw
                  case rel=>exact⟨m,nn+1,f,z2,by go_num,by omega,(λ k=>absurd k hXe),hz2p,(qh λ k=>absurd k hXe),HF2,H13⟩
                  case measure=>(simp [intOf];try omega)
               . have d1:decide ((hi:Int)<(lo:Int))=false:=decide_eq_false hbad;have d1n:¬(hi:Int)<(lo:Int):=hbad;by_cases hXe:z.e=0
                 . have hhv':=hhv hXe
                   have HF1:Hid (z.e=0->F=clL s m ((nn+1:Nat)==0) (λ b=>f b||J03 (lo:Int) (hi:Int) b) z):=qh λ _=>by
                    rw [HFy.out,<-HZ.out,if_neg (λ k=>hbad (by rw [hhv'];exact k.1)),<-hhv'];rfl
                   clear hhv' hhv;have hle:lo<=hi:=(by omega);have HE8:=qh (H12.out.rd.at0 hXe);go_wp2_with fail;go_loopw [13] (λ kv wr=>∃ k:Nat,kv= .int .i64 (k:Int)/\lo<=k/\k<=hi+1/\Hid (Cy w g gN gA s z op iv (λ b=>f b||(decide (lo<=b)&&decide (b<k))) wr)) (λ kv _=>hi+1-(intOf kv).toNat)
                   case atStart=>exact⟨lo,rfl,Nat.le_refl _,by omega,qh (H12.out.same λ i _=>by
                    by_cases e:lo<=i
                    . rw [decide_eq_false (by omega:¬i<lo),Bool.and_false,Bool.or_false]
                    . rw [decide_eq_false e,Bool.false_and,Bool.or_false])⟩
                   case round=>
                    clear H12 HE8;obtain⟨k,rfl,hk1,hk,HC⟩:=hrel;obtain⟨rr,hrr⟩:=HC.out.rd.at0 hXe;obtain⟨c0,c1,c2,c3,c4⟩:=hrr.facts;clear hrr;by_cases hk2:k<=hi
                    . have hk256:k<256:=(by omega);have i0:(0:Int)<=(k:Int):=(by omega);have i1:(k:Int)<256:=(by omega);have i2:decide ((k:Int)<=(hi:Int))=true:=decide_eq_true (by omega);have i3:(k:Int)<=(hi:Int):=(by omega);have hkw:IntKind.i64.wrap ((k:Int)+1)=(k:Int)+1:=IntWalk.i64_in _ (by omega);have y1:=HC.out.ar.frozen k hk256;have y0:=HC.out.ar.cell k hk256
                      have HN:Hid (Cy w g gN gA s z op iv (λ b=>f b||(decide (lo<=b)&&decide (b<k+1))) (wr.setCell ⟨gA,k,none⟩ (.bool true))):=qh ((HC.out.bit hk256 true).same λ i hi=>by
                       by_cases e:i=k
                       . subst e;rw [if_pos rfl,decide_eq_true hk1,decide_eq_true (Nat.lt_succ_self _)];simp
                       . rw [if_neg e];congr 2;rw [Bool.eq_iff_iff,decide_eq_true_eq,decide_eq_true_eq];omega)
                      go_wp2_with fail;go_roundw
                      case rel=>exact⟨k+1,by go_num,by omega,by omega,HN⟩
                      case measure=>simp [intOf];omega
                    . have i2:decide ((k:Int)<=(hi:Int))=false:=decide_eq_false (by omega);have i3:¬(k:Int)<=(hi:Int):=by omega
                      have HC2:Hid (Cy w g gN gA s z op iv (λ b=>f b||J03 (lo:Int) (hi:Int) b) wr):=qh (HC.out.same λ i hi=>by
                       congr 1;unfold J03;rw [Bool.eq_iff_iff];simp;omega)
                      clear HC;go_wp2_with fail;go_roundw
                      case rel=>exact⟨m,nn+1,(λ b=>f b||J03 (lo:Int) (hi:Int) b),z,by go_num,by omega,(λ k=>by have:=hgz.ok k;omega),hgz.hi,HF1,(qh λ k=>absurd hXe k),HC2⟩
                      case measure=>(simp [intOf];try omega)
                 . have HF2:Hid (¬z.e=0->F.2=z):=qh λ _=>by
                    rw [HFy.out,<-HZ.out,if_neg (λ k=>hXe k.2),Xm2 _ (λ k=>hXe k.1)]
                   have i2:decide ((lo:Int)<=(hi:Int))=true:=decide_eq_true (by omega);have i3:(lo:Int)<=(hi:Int):=(by omega);clear hhv;obtain⟨aa,rr,htt,hta,htr,ht0,ht1⟩:=H12.out.rd;obtain⟨c0,c1,c2,c3,c4⟩:=htt.facts;have f3:(z.e==0)=false:=beq_eq_false_iff_ne.2 hXe;clear htt hta htr ht0 ht1;go_wp2_with fail;go_loopw [13] (λ kv wr=>kv= .int .i64 (lo:Int)/\wr=w12) (λ _ _=>0)
                   case atStart=>exact⟨rfl,rfl⟩
                   case round=>
                    obtain⟨rfl,rfl⟩:=hrel;go_wp2_with fail;go_roundw
                    case rel=>exact⟨m,nn+1,f,z,by go_num,by omega,(λ k=>absurd k hXe),hgz.hi,(qh λ k=>absurd k hXe),HF2,H12⟩
                    case measure=>(simp [intOf];try omega)
            . have e92:((pk s y.up).toList== [92])=false:=(by rw [Xj2];exact beq_eq_false_iff_ne.2 hm92);clear hmany hm92;go_wp2_with fail;go_quiet (first|(go_at_call 148;exact CPn.out _))
              obtain⟨w10,hw10⟩:∃ w10,w9.drewN nq=w10:=⟨_,rfl⟩;rw [hw10];have HV:Hid (Cy w g gN gA s y.up op iv f w10):=qh (by rw [<-hw10];exact Hu.out.step (below_drewN (Below.refl _ _) nq));have HTV:Hid (Tb w10 g s ((y.p+1:Nat):Int) op 0 rr):=qh (by rw [<-hw10];exact HTT.out.drewN nq);clear hw10 Hu HTT c0 c1 c2 c3 c4 CPn;have CI2:=qh (qe9 s hs y.up 215 op g w10 hue hgu.hi HV.out.rd);go_wp2_with fail;refine CI2.out.mono ?_;rintro e w12 ⟨hi,pl2,q2,rfl,hq2,hk12,hcase2⟩;rcases hcase2 with⟨gf,hgf,_⟩|⟨hgn2,⟨hh0,hh1⟩,hhv,htq2⟩
              . exact absurd (by rw [hgf];rfl) HNM.out
              obtain⟨hi,rfl⟩:∃ hi':Nat,hi=(hi':Int):=⟨hi.toNat,by omega⟩;have hhi255:hi<=255:=(by omega);have hgz:=hgu.tr (Q44 s y.up hgu.hi);obtain⟨z,hz⟩:∃ z,z=(ch s y.up).2:=⟨_,rfl⟩;rw [<-hz] at hgz hhv htq2;have HZ:=qh hz;have H12:=qh (HV.out.kept htq2 (by decide) hk12);clear htq2 hk12 hq2 hgn2 hz CI2 HV HTV;by_cases hbad:(hi:Int)<(lo:Int)
              . have d1:decide ((hi:Int)<(lo:Int))=true:=decide_eq_true hbad;have i2:decide ((lo:Int)<=(hi:Int))=false:=decide_eq_false (by omega);have i3:¬(lo:Int)<=(hi:Int):=(by omega);have CW:=qh fun(hp:z.e=0->False)=>hp
                obtain⟨z2,hz2⟩:∃ z2:Sx,z2=if z.e=0 then ⟨y.p+1,3⟩ else z:=⟨_,rfl⟩
                have hXe:¬z2.e=0:=by
                 rw [hz2];split
                 . exact(show ¬(3:Int)=0 by decide)
                 . assumption
                have hz2p:z2.p<=s.size:=by
                 rw [hz2];split
                 . exact hgu.hi
                 . exact hgz.hi
                have HF2:Hid (¬z2.e=0->F.2=z2):=qh λ _=>by
                 have e:(if (ch s y.up).1<(lo:Int)/\(ch s y.up).2.e=0 then (⟨y.p+1,3⟩:Sx) else (ch s y.up).2)=z2:=by
                  rw [<-HZ.out,hz2];by_cases hze:z.e=0
                  . rw [if_pos hze,if_pos ⟨by rw [<-hhv hze];exact hbad,hze⟩]
                  . rw [if_neg hze,if_neg (λ k=>hze k.2)]
                 rw [HFy.out,e,Xm2 _ (λ k=>hXe k.1)]
                have CWr:Hid (Calls Tryz.prog 118 #[.pointer (some ⟨g,0,none⟩),.int .i64 3,.int .i64 ((y.p:Int)+1)] w12 λ e w'=>e= .returned (.tuple #[])/\Tq 215 w' g s z2 op/\KeptOff w12 w' g):=qh (by
                 obtain⟨aa,r2,htt,hta,htr,ht0,ht1⟩:=H12.out.rd;by_cases hze:z.e=0
                 . rw [hze] at htt;refine(zF3 s aa op r2 g w12 3 ((y.p:Int)+1) htt).mono ?_;rintro e w' ⟨h1,h2,h3⟩;refine⟨h1,?_,h3⟩;rw [hz2,if_pos hze];exact Tq.bad (p:=y.p+1) (by rw [HYC.out] at h2;exact h2) (show ¬(3:Int)=0 by decide) ht0 ht1
                 . refine(Zg6 s aa op r2 g w12 3 ((y.p:Int)+1) z.e hze htt).mono ?_;rintro e w' ⟨h1,rfl⟩;refine⟨h1,?_,KeptOff.refl⟩;rw [hz2,if_neg hze];exact⟨aa,r2,htt,hta,htr,ht0,ht1⟩)
                clear hz2 hhv CW;go_wp2_with fail;refine CWr.out.mono ?_;rintro e w13 ⟨rfl,ht13,hk13⟩;have H13:=qh (H12.out.kept ht13 (Int.le_refl _) hk13);clear ht13 hk13 CWr H12;obtain⟨aa,rr,htt,hta,htr,ht0,ht1⟩:=H13.out.rd;obtain⟨c0,c1,c2,c3,c4⟩:=htt.facts;have f3:(z2.e==0)=false:=beq_eq_false_iff_ne.2 hXe;clear htt hta htr ht0 ht1;go_wp2_with fail;go_loopw [13] (λ kv wr=>kv= .int .i64 (lo:Int)/\wr=w13) (λ _ _=>0)
                case atStart=>exact⟨rfl,rfl⟩
                case round=>
                 obtain⟨rfl,rfl⟩:=hrel;go_wp2_with fail;go_roundw
                 case rel=>exact⟨m,nn+1,f,z2,by go_num,by omega,(λ k=>absurd k hXe),hz2p,(qh λ k=>absurd k hXe),HF2,H13⟩
                 case measure=>(simp [intOf];try omega)
              . have d1:decide ((hi:Int)<(lo:Int))=false:=decide_eq_false hbad;have d1n:¬(hi:Int)<(lo:Int):=hbad;by_cases hXe:z.e=0
                . have hhv':=hhv hXe
                  have HF1:Hid (z.e=0->F=clL s m ((nn+1:Nat)==0) (λ b=>f b||J03 (lo:Int) (hi:Int) b) z):=qh λ _=>by
                   rw [HFy.out,<-HZ.out,if_neg (λ k=>hbad (by rw [hhv'];exact k.1)),<-hhv'];rfl
                  clear hhv' hhv;have hle:lo<=hi:=(by omega);have HE8:=qh (H12.out.rd.at0 hXe);go_wp2_with fail;go_loopw [13] (λ kv wr=>∃ k:Nat,kv= .int .i64 (k:Int)/\lo<=k/\k<=hi+1/\Hid (Cy w g gN gA s z op iv (λ b=>f b||(decide (lo<=b)&&decide (b<k))) wr)) (λ kv _=>hi+1-(intOf kv).toNat)
                  case atStart=>exact⟨lo,rfl,Nat.le_refl _,by omega,qh (H12.out.same λ i _=>by
                   by_cases e:lo<=i
                   . rw [decide_eq_false (by omega:¬i<lo),Bool.and_false,Bool.or_false]
                   . rw [decide_eq_false e,Bool.false_and,Bool.or_false])⟩
                  case round=>
                   clear H12 HE8;obtain⟨k,rfl,hk1,hk,HC⟩:=hrel;obtain⟨rr,hrr⟩:=HC.out.rd.at0 hXe;obtain⟨c0,c1,c2,c3,c4⟩:=hrr.facts;clear hrr;by_cases hk2:k<=hi
                   . have hk256:k<256:=(by omega);have i0:(0:Int)<=(k:Int):=(by omega);have i1:(k:Int)<256:=(by omega);have i2:decide ((k:Int)<=(hi:Int))=true:=decide_eq_true (by omega);have i3:(k:Int)<=(hi:Int):=(by omega);have hkw:IntKind.i64.wrap ((k:Int)+1)=(k:Int)+1:=IntWalk.i64_in _ (by omega);have y1:=HC.out.ar.frozen k hk256;have y0:=HC.out.ar.cell k hk256
                     have HN:Hid (Cy w g gN gA s z op iv (λ b=>f b||(decide (lo<=b)&&decide (b<k+1))) (wr.setCell ⟨gA,k,none⟩ (.bool true))):=qh ((HC.out.bit hk256 true).same λ i hi=>by
                      by_cases e:i=k
                      . subst e;rw [if_pos rfl,decide_eq_true hk1,decide_eq_true (Nat.lt_succ_self _)];simp
                      . rw [if_neg e];congr 2;rw [Bool.eq_iff_iff,decide_eq_true_eq,decide_eq_true_eq];omega)
                     go_wp2_with fail;go_roundw
                     case rel=>exact⟨k+1,by go_num,by omega,by omega,HN⟩
                     case measure=>simp [intOf];omega
                   . have i2:decide ((k:Int)<=(hi:Int))=false:=decide_eq_false (by omega);have i3:¬(k:Int)<=(hi:Int):=by omega
                     have HC2:Hid (Cy w g gN gA s z op iv (λ b=>f b||J03 (lo:Int) (hi:Int) b) wr):=qh (HC.out.same λ i hi=>by
                      congr 1;unfold J03;rw [Bool.eq_iff_iff];simp;omega)
                     clear HC;go_wp2_with fail;go_roundw
                     case rel=>exact⟨m,nn+1,(λ b=>f b||J03 (lo:Int) (hi:Int) b),z,by go_num,by omega,(λ k=>by have:=hgz.ok k;omega),hgz.hi,HF1,(qh λ k=>absurd hXe k),HC2⟩
                     case measure=>(simp [intOf];try omega)
                . have HF2:Hid (¬z.e=0->F.2=z):=qh λ _=>by
                   rw [HFy.out,<-HZ.out,if_neg (λ k=>hXe k.2),Xm2 _ (λ k=>hXe k.1)]
                  have i2:decide ((lo:Int)<=(hi:Int))=true:=decide_eq_true (by omega);have i3:(lo:Int)<=(hi:Int):=(by omega);clear hhv;obtain⟨aa,rr,htt,hta,htr,ht0,ht1⟩:=H12.out.rd;obtain⟨c0,c1,c2,c3,c4⟩:=htt.facts;have f3:(z.e==0)=false:=beq_eq_false_iff_ne.2 hXe;clear htt hta htr ht0 ht1;go_wp2_with fail;go_loopw [13] (λ kv wr=>kv= .int .i64 (lo:Int)/\wr=w12) (λ _ _=>0)
                  case atStart=>exact⟨rfl,rfl⟩
                  case round=>
                   obtain⟨rfl,rfl⟩:=hrel;go_wp2_with fail;go_roundw
                   case rel=>exact⟨m,nn+1,f,z,by go_num,by omega,(λ k=>absurd k hXe),hgz.hi,(qh λ k=>absurd k hXe),HF2,H12⟩
                   case measure=>(simp [intOf];try omega)
        . have HFy:Hid (F=clL s m false (λ b=>f b||J03 (ch s x).1 (ch s x).1 b) y):=qh (by rw [HFx.out hxe];exact(Kg8 hcond HGN.out (by rw [<-hy];exact h45)).trans (by rw [<-hy]));have e45:((pk s y).toList== [45])=false:=(by rw [Xj2];exact beq_eq_false_iff_ne.2 h45);clear h45 hy;go_wp2_with fail;refine CP7.out.mono ?_;rintro e w8 ⟨rfl,qq,hqq⟩;have H8:=qh (H7.out.step (wr':=w8) (by rw [hqq];exact below_drewN (Below.refl _ _) qq));clear hqq;by_cases hXe:y.e=0
          . have hlv':=hlv hXe;have HF1:Hid (y.e=0->F=clL s m ((nn+1:Nat)==0) (λ b=>f b||J03 (lo:Int) (lo:Int) b) y):=qh λ _=>by rw [HFy.out,<-hlv'];rfl
            clear hlv' hlv;have HE8:=qh (H8.out.rd.at0 hXe);go_wp2_with fail;go_loopw [13] (λ kv wr=>∃ k:Nat,kv= .int .i64 (k:Int)/\lo<=k/\k<=lo+1/\Hid (Cy w g gN gA s y op iv (λ b=>f b||(decide (lo<=b)&&decide (b<k))) wr)) (λ kv _=>lo+1-(intOf kv).toNat)
            case atStart=>exact⟨lo,rfl,Nat.le_refl _,by omega,qh (H8.out.same λ i _=>by
             by_cases e:lo<=i
             . rw [decide_eq_false (by omega:¬i<lo),Bool.and_false,Bool.or_false]
             . rw [decide_eq_false e,Bool.false_and,Bool.or_false])⟩
            case round=>
             clear H8 HE8;obtain⟨k,rfl,hk1,hk,HC⟩:=hrel;obtain⟨rr,hrr⟩:=HC.out.rd.at0 hXe;obtain⟨c0,c1,c2,c3,c4⟩:=hrr.facts;clear hrr;by_cases hk2:k<=lo
             . have hk256:k<256:=(by omega);have i0:(0:Int)<=(k:Int):=(by omega);have i1:(k:Int)<256:=(by omega);have i2:decide ((k:Int)<=(lo:Int))=true:=decide_eq_true (by omega);have i3:(k:Int)<=(lo:Int):=(by omega);have hkw:IntKind.i64.wrap ((k:Int)+1)=(k:Int)+1:=IntWalk.i64_in _ (by omega);have y1:=HC.out.ar.frozen k hk256;have y0:=HC.out.ar.cell k hk256
               have HN:Hid (Cy w g gN gA s y op iv (λ b=>f b||(decide (lo<=b)&&decide (b<k+1))) (wr.setCell ⟨gA,k,none⟩ (.bool true))):=qh ((HC.out.bit hk256 true).same λ i hi=>by
                by_cases e:i=k
                . subst e;rw [if_pos rfl,decide_eq_true hk1,decide_eq_true (Nat.lt_succ_self _)];simp
                . rw [if_neg e];congr 2;rw [Bool.eq_iff_iff,decide_eq_true_eq,decide_eq_true_eq];omega)
               go_wp2_with fail;go_roundw
               case rel=>exact⟨k+1,by go_num,by omega,by omega,HN⟩
               case measure=>simp [intOf];omega
             . have i2:decide ((k:Int)<=(lo:Int))=false:=decide_eq_false (by omega);have i3:¬(k:Int)<=(lo:Int):=by omega
               have HC2:Hid (Cy w g gN gA s y op iv (λ b=>f b||J03 (lo:Int) (lo:Int) b) wr):=qh (HC.out.same λ i hi=>by
                congr 1;unfold J03;rw [Bool.eq_iff_iff];simp;omega)
               clear HC;go_wp2_with fail;go_roundw
               case rel=>exact⟨m,nn+1,(λ b=>f b||J03 (lo:Int) (lo:Int) b),y,by go_num,by omega,(λ k=>by have:=hgy.ok k;omega),hgy.hi,HF1,(qh λ k=>absurd hXe k),HC2⟩
               case measure=>(simp [intOf];try omega)
          . have HF2:Hid (¬y.e=0->F.2=y):=qh λ _=>by rw [HFy.out,Xm2 _ (λ k=>hXe k.1)]
            have i2:decide ((lo:Int)<=(lo:Int))=true:=decide_eq_true (Int.le_refl _);clear hlv;obtain⟨aa,rr,htt,hta,htr,ht0,ht1⟩:=H8.out.rd;obtain⟨c0,c1,c2,c3,c4⟩:=htt.facts;have f3:(y.e==0)=false:=beq_eq_false_iff_ne.2 hXe;clear htt hta htr ht0 ht1;go_wp2_with fail;go_loopw [13] (λ kv wr=>kv= .int .i64 (lo:Int)/\wr=w8) (λ _ _=>0)
            case atStart=>exact⟨rfl,rfl⟩
            case round=>
             obtain⟨rfl,rfl⟩:=hrel;go_wp2_with fail;go_roundw
             case rel=>exact⟨m,nn+1,f,y,by go_num,by omega,(λ k=>absurd k hXe),hgy.hi,(qh λ k=>absurd k hXe),HF2,H8⟩
             case measure=>(simp [intOf];try omega)
     |false=>
      have HE2:Hid (F.2.p<=s.size/\(F.2.e=0->F.1=f/\nx s F.2=93)/\F.2=x):=qh (by
       rcases hb0 rfl with h|⟨h,h2⟩
       . have e:=HF0.out h;exact⟨by rw [e];exact hxp,λ k=>absurd k (by rw [e];exact h),e⟩
       . by_cases hxe:x.e=0
         . have e:F=(f,x):=(HFx.out hxe).trans (Xm2 _ λ k=>by
            rcases k.2 with h'|h'
            . rw [beq_iff_eq] at h';exact h h'
            . exact h' h2)
           rw [e];exact⟨hxp,λ _=>⟨rfl,h2⟩,rfl⟩
         . have e:=HF0.out hxe;exact⟨by rw [e];exact hxp,λ k=>absurd k (by rw [e];exact hxe),e⟩)
      clear hnp HX hb0 hb1;go_wp2_with fail;go_meet;exact⟨f,HE2.out.1,qh HE2.out.2.1,by rw [HE2.out.2.2];exact HXc⟩
  case rest=>
   obtain⟨fl,hFp,HE2,HX⟩:=hcut;clear HCx;have hlA:=HX.out.ar.lt;have CW:Hid (Calls Tryz.prog 124 #[.func (.func 224) #[] #[.pointer (some ⟨gA,0,none⟩),.pointer (some ⟨gN,0,none⟩)]] wc (QT2 (λ b=>fl b !=iv) wc)):=qh (qH9 224 ⟨gA,0,none⟩ ⟨gN,0,none⟩ (λ b=>fl b !=iv) wc (Yt1 gA gN) λ b w'' hb hbw=>z96 b gA gN fl iv w'' hb (HX.out.ar.kept hbw) ((hbw.cell (p:=⟨gN,0,none⟩) (Blk.lt HX.out.ng)).trans (HX.out.ng.cell 0)));go_wp2_with fail;refine CW.out.mono ?_;rintro e w5 ⟨q,rfl,hq,hb5⟩;have H5:=qh (HX.out.step hb5);have H6:=qh (H5.out.step ((Below.refl _ _).alloc (Nat.le_refl _) (.cells #[.int .u64 (q.a:Int),.int .u64 (q.b:Int),.int .u64 (q.c:Int),.int .u64 (q.d:Int)] 122)));have hs6:=SBlk.lit w5 q;have hg14:g<w5.heap.size:=H5.out.rd.lt;have HQO:=qh hq.1;have hcl:cls s x0=(mkQ (if iv=true then λ b=> !F.1 b else F.1),tkX s (if (mkQ (if iv=true then λ b=> !F.1 b else F.1)).zero=true then F.2.fl 3 else F.2) 93):=HC.out
   have hqq:F.2.e=0->q=mkQ (if iv=true then λ b=> !F.1 b else F.1):=λ k=>ZB8 hq λ b hb=>by
    rw [(HE2.out k).1];rcases Bool.eq_false_or_eq_true iv with h|h<;>rw [h]<;>simp
   clear hb5 hq HX CW;unfold Qj7;go_upto_region 31 with fail;obtain⟨w6,hw6⟩:∃ w6,w5.alloc (.cells #[.int .u64 (q.a:Int),.int .u64 (q.b:Int),.int .u64 (q.c:Int),.int .u64 (q.d:Int)] 122)=w6:=⟨_,rfl⟩;rw [hw6] at H6 hs6⊢;obtain⟨g14,hg⟩:∃ g14,w5.heap.size=g14:=⟨_,rfl⟩;rw [hg] at hs6 hg14⊢;have HS14:=qh hs6;clear hw6 hg hs6 H5;obtain⟨s0,s1,s2,s3⟩:=Blk.c4 HS14.out;have hzi0:((q.a:Int)==0&&((q.b:Int)==0&&((q.c:Int)==0&&(q.d:Int)==0)))=q.zero:=qc4 q;by_cases hFe:F.2.e=0
   focus
    have hqe:=hqq hFe;rw [<-hqe] at hcl;cases hz:q.zero
    focus
     have hzi:((q.a:Int)==0&&((q.b:Int)==0&&((q.c:Int)==0&&(q.d:Int)==0)))=false:=hzi0.trans hz;have hn93:=(HE2.out hFe).2
     have hcl2:(cls s x0).2=F.2.up:=by
      rw [hcl,if_neg (by rw [hz];decide)];exact if_pos hn93
     have HQE:Hid ((cls s x0).2.e=0->q=(cls s x0).1):=qh λ _=>by rw [hcl]
     have HCL:=qh hcl2;have H7:=H6;obtain⟨w7,rfl⟩:∃ w7:World,w7=w6:=⟨_,rfl⟩;have hF200:F.2.p<=200:=(by omega);clear hcl hcl2 hqe hqq hz hzi0 hn93;go_upto_region 33 with fail;clear s0 s1 s2 s3 H6;obtain⟨aa,rr,htt,hta,htr,ht0,ht1⟩:=H7.out.rd;obtain⟨c0,c1,c2,c3,c4⟩:=htt.facts;have cf1:=htt.froz 1;have hwp:IntKind.i64.wrap (aa+1)=aa+1:=IntWalk.i64_in _ (by omega);have hlt1:=H7.out.lt;have hl1:=H7.out.l1;have HT2:Hid (Tq 220 (w7.setCell ⟨g,1,none⟩ (.int .i64 (aa+1))) g s (cls s x0).2 op):=qh (by rw [HCL.out];have e:=hta hFe;subst e;rw [hFe] at htt;exact Tq.of0 (y:=F.2.up) (r:=rr) (htt.setP ((F.2.p:Int)+1)) hFe (by show ((F.2.p+1:Nat):Int)<=220;omega))
    rotate_left
    focus
     have hzi:((q.a:Int)==0&&((q.b:Int)==0&&((q.c:Int)==0&&(q.d:Int)==0)))=true:=hzi0.trans hz
     have hcl2:(cls s x0).2=⟨F.2.p,3⟩:=by
      rw [hcl,if_pos hz,show F.2.fl 3=⟨F.2.p,3⟩ from if_pos hFe];show tkX s ⟨F.2.p,3⟩ 93=⟨F.2.p,3⟩;unfold tkX;exact if_neg (show ¬nx s (⟨F.2.p,3⟩:Sx)=93 by rw [kb2 (show ¬(3:Int)=0 by decide)];decide)
     have HQE:Hid ((cls s x0).2.e=0->q=(cls s x0).1):=qh λ k=>absurd k (by rw [hcl2];exact(show ¬(3:Int)=0 by decide))
     have HCL:=qh hcl2;obtain⟨r0,hr0⟩:=H6.out.rd.at0 hFe;obtain⟨c0,c1,c2,c3,c4⟩:=hr0.facts;have hz4:=K65 hz;have HT0:=qh hr0;clear hcl hcl2 hqe hqq hz hr0 hzi0 hz4;go_wp2_with fail;refine(zF3 s _ op r0 g w6 3 (F.2.p:Int) HT0.out).mono ?_;rintro e w7 ⟨rfl,ht7,hk7⟩;have H7:=qh (H6.out.kept (Tq.bad (m:=215) (p:=F.2.p) ht7 (show ¬(3:Int)=0 by decide) (by omega) (by omega)) (Int.le_refl _) hk7);have HS14:Hid (SBlk w7 g14 q):=qh (hk7.blk HS14.out (by omega));clear ht7 hk7 H6 HT0 c0 c1 c2 c3 c4 s0 s1 s2 s3;obtain⟨aa,rr,htt,hta,htr,ht0,ht1⟩:=H7.out.rd;obtain⟨c0,c1,c2,c3,c4⟩:=htt.facts;have cf1:=htt.froz 1;have hwp:IntKind.i64.wrap (aa+1)=aa+1:=IntWalk.i64_in _ (by omega);have hlt1:=H7.out.lt;have hl1:=H7.out.l1;have HT2:Hid (Tq 220 (w7.setCell ⟨g,1,none⟩ (.int .i64 (aa+1))) g s (cls s x0).2 op):=qh (by rw [HCL.out];exact Tq.bad (p:=F.2.p) (by have e:=htr (show ¬(3:Int)=0 by decide);dsimp only at e;rw [e] at htt;exact htt.setP (aa+1)) (show ¬(3:Int)=0 by decide) (by omega) (by omega))
   rotate_left 2
   focus
    have hcl2:(cls s x0).2=F.2:=by
     rw [hcl];have e:F.2.fl 3=F.2:=if_neg hFe;rw [e];have e2:∀ c:Prop,[Decidable c]->(if c then F.2 else F.2)=F.2:=λ c _=>by split<;>rfl
     rw [e2];show tkX s F.2 93=F.2;unfold tkX;exact if_neg (show ¬nx s F.2=93 by rw [kb2 hFe];decide)
    have HQE:Hid ((cls s x0).2.e=0->q=(cls s x0).1):=qh λ k=>absurd k (by rw [hcl2];exact hFe)
    have HCL:=qh hcl2;clear hcl hcl2 hqq;cases hz:q.zero
    focus
     have hzi:((q.a:Int)==0&&((q.b:Int)==0&&((q.c:Int)==0&&(q.d:Int)==0)))=false:=hzi0.trans hz;have H7:=H6;obtain⟨w7,rfl⟩:∃ w7:World,w7=w6:=⟨_,rfl⟩;clear hz hzi0;go_upto_region 33 with fail;clear s0 s1 s2 s3 H6
    rotate_left
    focus
     have hzi:((q.a:Int)==0&&((q.b:Int)==0&&((q.c:Int)==0&&(q.d:Int)==0)))=true:=hzi0.trans hz;obtain⟨aa,r0,htt,hta,htr,ht0,ht1⟩:=H6.out.rd;obtain⟨c0,c1,c2,c3,c4⟩:=htt.facts;have CWn:=qh (Zg6 s aa op r0 g w6 3 aa F.2.e hFe htt);clear hz hzi0 htt hta htr;go_wp2_with fail;refine CWn.out.mono ?_;rintro e w7 ⟨rfl,rfl⟩;have H7:=H6;clear c0 c1 c2 c3 c4 CWn s0 s1 s2 s3 ht0 ht1 H6;go_upto_region 33 with fail
    all_goals
     obtain⟨aa,rr,htt,hta,htr,ht0,ht1⟩:=H7.out.rd;obtain⟨c0,c1,c2,c3,c4⟩:=htt.facts;have cf1:=htt.froz 1;have hwp:IntKind.i64.wrap (aa+1)=aa+1:=IntWalk.i64_in _ (by omega);have hlt1:=H7.out.lt;have hl1:=H7.out.l1;have HT2:Hid (Tq 220 (w7.setCell ⟨g,1,none⟩ (.int .i64 (aa+1))) g s (cls s x0).2 op):=qh (by rw [HCL.out];exact⟨aa+1,rr,htt.setP (aa+1),λ k=>absurd k hFe,htr,by omega,by omega⟩)
   rotate_left 2
   all_goals
    have HR2:Hid (SBlk (w7.setCell ⟨g,1,none⟩ (.int .i64 (aa+1))) w.heap.size ⟨0,0,0,0⟩):=qh (Blk.far H7.out.re (by dsimp only;omega) _);have HS2:Hid (SBlk (w7.setCell ⟨g,1,none⟩ (.int .i64 (aa+1))) g14 q):=qh (Blk.far HS14.out (by dsimp only;omega) _);have HK2:Hid (KeptOff w (w7.setCell ⟨g,1,none⟩ (.int .i64 (aa+1))) g):=qh (H7.out.ko.set_ 1 _);clear htt hta htr;go_upto_region 34 with fail;obtain⟨w8,hw8⟩:∃ w8,w7.setCell ⟨g,1,none⟩ (.int .i64 (aa+1))=w8:=⟨_,rfl⟩;rw [hw8] at HT2 HR2 HS2 HK2⊢;clear hw8 c0 c1 c2 c3 c4 cf1;obtain⟨s0,s1,s2,s3⟩:=Blk.c4 HS2.out;obtain⟨r0,r1,r2,r3⟩:=Blk.z4 HR2.out;obtain⟨fr0,fr1,fr2,fr3⟩:=Blk.f4 HR2.out;have HZ:=qh (X26 HR2.out q);have HZK:=qh (HK2.out.put4 (Nat.le_refl _) q);have HZR:=qh (HT2.out.far4 (by omega:w.heap.size≠g) q);go_wp2_with fail;obtain⟨wz,hwz⟩:∃ wz,wz=((((w8.setCell ⟨w.heap.size,0,none⟩ (.int .u64 (q.a:Int))).setCell ⟨w.heap.size,1,none⟩ (.int .u64 (q.b:Int))).setCell ⟨w.heap.size,2,none⟩ (.int .u64 (q.c:Int))).setCell ⟨w.heap.size,3,none⟩ (.int .u64 (q.d:Int))):=⟨_,rfl⟩;have hz:=HZ.out;have hzk:=HZK.out;have hzr:=HZR.out;rw [<-hwz] at hz hzk hzr⊢;obtain⟨z0,z1,z2,z3⟩:=Blk.c4 hz
   . refine bodyPost_ret (v:= .agg #[.int .u64 (q.a:Int),.int .u64 (q.b:Int),.int .u64 (q.c:Int),.int .u64 (q.d:Int)]) (by simp [results,Tryz.results211,go_sem,z0,z1,z2,z3]) rfl ⟨q,rfl,HQO.out,HQE.out,hzr,hzk⟩
   . refine bodyPost_ret (v:= .agg #[.int .u64 (q.a:Int),.int .u64 (q.b:Int),.int .u64 (q.c:Int),.int .u64 (q.d:Int)]) (by simp [results,Tryz.results211,go_sem,z0,z1,z2,z3]) rfl ⟨q,rfl,HQO.out,HQE.out,hzr,hzk⟩
   . refine bodyPost_ret (v:= .agg #[.int .u64 (q.a:Int),.int .u64 (q.b:Int),.int .u64 (q.c:Int),.int .u64 (q.d:Int)]) (by simp [results,Tryz.results211,go_sem,z0,z1,z2,z3]) rfl ⟨q,rfl,HQO.out,HQE.out,hzr,hzk⟩
   . refine bodyPost_ret (v:= .agg #[.int .u64 (q.a:Int),.int .u64 (q.b:Int),.int .u64 (q.c:Int),.int .u64 (q.d:Int)]) (by simp [results,Tryz.results211,go_sem,z0,z1,z2,z3]) rfl ⟨q,rfl,HQO.out,HQE.out,hzr,hzk⟩
end Go.Proofs.YtngepacmgabmaaaGreatDoor
