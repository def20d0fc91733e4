/- Walk: (*rex.reader).atom, by what reads ; Walk: rex.size .. -/
import Derived.Test.YtngepacmgabmaaaGreatDoorGt
namespace Go.Proofs.YtngepacmgabmaaaGreatDoor
open Go.RowKit
set_option linter.unusedVariables false
set_option linter.unusedSimpArgs false
noncomputable def amG (s:ByteArray) (o:Option (Sx->Rx×Sx)) (x:Sx):Rx×Sx:=
 if nx s x=40 then
  match o with
  |none=>(Y41 0,x.fl 11)
  |some B=>((B x.up).1,if nx s (B x.up).2=41 then (B x.up).2.up else (B x.up).2.fl 3)
 else if nx s x=46 then (kZ7 (mkQ λ b=>decide (¬b=10)),x.up)
 else if nx s x=94 then (Y41 7,x.up)
 else if nx s x=36 then (Y41 8,x.up)
 else if nx s x=91 then (kZ7 (cls s x.up).1,(cls s x.up).2)
 else match gr s x with
  |some g=>(kZ7 (mkQ g),x.up.up)
  |none=>(kZ7 (mkQ (J03 (ch s x).1 (ch s x).1)),(ch s x).2)
theorem Jt4 (s:ByteArray):amF s 0=amG s none:=by
 funext x
 unfold amF amG;rfl
theorem kF4 (s:ByteArray) (n:Nat):amF s (n+1)=amG s (some (alF s (amF s n))):=by
 funext x
 rw [amF,amG]
 first
  |rfl
  |(cases gr s x<;>rfl)
theorem zE4 {s:ByteArray} {x:Sx} {op:Int} {g:Nat} (hs:s.size<=200) {b:Int} (hp:x.p<=s.size) (h:¬nx s x=b) (w:World) (hR:Rd w g s x op):
 Calls Tryz.prog 158 #[.pointer (some ⟨g,0,none⟩),.int .i64 b] w λ e w'=>e= .returned (.bool false)/\Rd w' g s x op/\KeptOff w w' g:=by
 have:=k06 s hs x op g w b hp hR;rw [show tkX s x b=x from if_neg h,show (nx s x==b)=false from beq_eq_false_iff_ne.2 h] at this;exact this
theorem Qe5 {s:ByteArray} {x:Sx} {op:Int} {g:Nat} (hs:s.size<=200) {b:Int} (hp:x.p<=s.size) (h:nx s x=b) (w:World) (hR:Rd w g s x op):
 Calls Tryz.prog 158 #[.pointer (some ⟨g,0,none⟩),.int .i64 b] w λ e w'=>e= .returned (.bool true)/\Rd w' g s x.up op/\KeptOff w w' g:=by
 have:=k06 s hs x op g w b hp hR;rw [show tkX s x b=x.up from if_pos h,show (nx s x==b)=true from beq_iff_eq.2 h] at this;exact this
structure Ux (w:World) (g:Nat) (s:ByteArray) (y:Sx) (op:Int) (wr:World):Prop where
 rd:Rd wr g s y op
 re:Blk wr w.heap.size 125 #[.int .i64 0,.int .u64 0,.int .u64 0,.int .u64 0,.int .u64 0,.slice none 0 0]
 ko:KeptOff w wr g
 lt:g<w.heap.size
section
variable {w wr wr':World} {g:Nat} {s:ByteArray} {y y':Sx} {op op':Int}
theorem Ux.step (h:Ux w g s y op wr) (hb:Below wr.heap.size wr wr'):Ux w g s y op wr':=⟨h.rd.below hb,Blk.below h.re hb (Blk.lt h.re),h.ko.tr (KeptOff.of_below hb),h.lt⟩
theorem Ux.kept (h:Ux w g s y op wr) (hr:Rd wr' g s y' op') (hk:KeptOff wr wr' g):Ux w g s y' op' wr':=⟨hr,hk.blk h.re (by have:=h.lt;omega),h.ko.tr hk,h.lt⟩
theorem Tx.opn {gT:Nat} {cs:List Value} (h:Tx w g gT s y op cs wr) (o:Int):Tx w g gT s y o cs (wr.setCell ⟨g,2,none⟩ (.int .i64 o)):=by
 have h1:=h.lt;have h2:=h.gl;exact⟨h.rd.setO o,Blk.far h.re (by dsimp only;omega) _,Blk.far h.te (by dsimp only;omega) _,h.ko.set_ 2 _,h.lt,h.gl⟩
theorem Ux.upP (h:Ux w g s y op wr):Ux w g s y.up op (wr.setCell ⟨g,1,none⟩ (.int .i64 ((y.p:Int)+1))):=by
 have hlt:=h.lt;exact⟨h.rd.setP (y.p+1),Blk.far h.re (by dsimp only;omega) _,h.ko.set_ 1 _,h.lt⟩
theorem Ux.opn (h:Ux w g s y op wr) (o:Int):Ux w g s y o (wr.setCell ⟨g,2,none⟩ (.int .i64 o)):=by
 have hlt:=h.lt;exact⟨h.rd.setO o,Blk.far h.re (by dsimp only;omega) _,h.ko.set_ 2 _,h.lt⟩
end
set_option maxRecDepth 100000 in
set_option maxHeartbeats 16000000 in
theorem Q73 (s:ByteArray) (hs:s.size<=200) (op:Int) (o:Option (Sx->Rx×Sx)) (hop:0<=op/\op<=20) (h20:o=none->op=20) (hB:∀ B,o=some B->op≠20/\J11 132 (op+1) s B/\Go0 s B):J11 193 op s (amG s o):=by
 intro g w x he hp hR;obtain⟨W,hW⟩:∃ W,w.alloc (.cells #[.int .i64 0,.int .u64 0,.int .u64 0,.int .u64 0,.int .u64 0,.slice none 0 0] 125)=W:=⟨_,rfl⟩;have hWR:Rd W g s x op:=by rw [<-hW];exact Blk.alloc hR _
 have hU:Ux w g s x op W:=⟨hWR,by rw [<-hW];exact Blk.new w _ _,by rw [<-hW];exact KeptOff.refl.alloc _,Blk.lt hR⟩;have CN:=qh (xq2 s x op g W hp hWR);have HX0:=qh hU;have hne:=hU.lt;obtain⟨F,hF⟩:∃ F,F=amG s o x:=⟨_,rfl⟩;rw [<-hF];have hlo:=Kj4 s x;clear hWR hU hR;by_cases h40:nx s x=40
 . rw [h40] at CN;have hx40:=Jo0 (s:=s) (x:=x) (by omega);cases o with
   |none=>
    have h2:=h20 rfl;have HFe:Hid (F=(Y41 0,x.fl 11)):=qh (by rw [hF];unfold amG;rw [if_pos h40]);clear h40 hF hB h20;go_enter Tryz.func193,Tryz.ntmps193;go_wp2_with fail;refine CN.out.mono ?_;rintro e w1 ⟨rfl,qq,hq1⟩;clear hW;have HX:Hid (Ux w g s x op w1):=qh (by rw [hq1];exact HX0.out.step (below_drewN (Below.refl _ _) qq));clear hq1;obtain⟨c0,c1,c2,c3⟩:=HX.out.rd.facts;rw [h2] at c2;clear h2;go_wp2_with fail;refine(z88 s x op g _ 11 HX.out.rd).mono ?_;rintro e w9 ⟨rfl,hr9,hk9⟩;replace HX:=qh (HX.out.kept hr9 hk9);clear hr9 hk9 c0 c1 c2 c3;have hre:=HX.out.re;have hko:=HX.out.ko;have hrd:=HX.out.rd;obtain⟨r0,r1,r2,r3,r4,r5⟩:=Blk.c6 hre;obtain⟨fr0,fr1,fr2,fr3,fr4,fr5⟩:=Blk.f6 hre;have HZ:=qh (J42 (cs:= [.int .i64 0,.int .u64 0,.int .u64 0,.int .u64 0,.int .u64 0,.slice none 0 0]) hre rfl 0 0 0 0 0 none 0 0);have HZK:=qh (hko.put6 (Nat.le_refl _) 0 0 0 0 0 none 0 0);have HZR:=qh (Blk.far6 hrd (by omega:w.heap.size≠g) 0 0 0 0 0 none 0 0);clear hre hko hrd;go_wp2_with fail;obtain⟨wz,hwz⟩:∃ wz,wz=((((((w9.setCell ⟨w.heap.size,0,none⟩ (.int .i64 0)).setCell ⟨w.heap.size,1,none⟩ (.int .u64 0)).setCell ⟨w.heap.size,2,none⟩ (.int .u64 0)).setCell ⟨w.heap.size,3,none⟩ (.int .u64 0)).setCell ⟨w.heap.size,4,none⟩ (.int .u64 0)).setCell ⟨w.heap.size,5,none⟩ (.slice none 0 0)):=⟨_,rfl⟩;have hz:=HZ.out;have hzk:=HZK.out;have hzr:=HZR.out;rw [<-hwz] at hz hzk hzr⊢;obtain⟨z0,z1,z2,z3,z4,z5⟩:=Blk.c6 hz
    refine bodyPost_ret (v:= .agg #[.int .i64 0,.int .u64 0,.int .u64 0,.int .u64 0,.int .u64 0,.slice none 0 0]) (by simp [results,Tryz.results193,go_sem,z0,z1,z2,z3,z4,z5]) rfl ⟨0,0,0,0,0,none,0,0,rfl,by rw [HFe.out];exact hzr,hzk,λ hy=>by
     rw [HFe.out];exact⟨1,RxT.leaf wz _ 0 zq q30 (by decide) (by decide)⟩⟩
   |some B=>
    obtain⟨hn20,hAlt,hGo⟩:=hB B rfl;have f20:(op==20)=false:=(by rw [beq_eq_false_iff_ne];exact hn20);have hup:=kx8 (s:=s) (x:=x) (by omega);have hxe:x.up.e=0:=he;have hY:=hGo x.up hxe hup.hi;have HFx:Hid (F=((B x.up).1,if nx s (B x.up).2=41 then (B x.up).2.up else (B x.up).2.fl 3)):=qh (by rw [hF];unfold amG;rw [if_pos h40]);have CA:=qh λ w' (hr:Rd w' g s x.up (op+1))=>hAlt g w' x.up hxe hup.hi hr
    have hw1:IntKind.i64.wrap ((x.p:Int)+1)=(x.p:Int)+1:=IntWalk.i64_in _ (by omega);have hw2:IntKind.i64.wrap (op+1)=op+1:=IntWalk.i64_in _ (by omega);have hw3:IntKind.i64.wrap (op+1-1)=op:=(by rw [show op+1-1=op by omega];exact IntWalk.i64_in _ (by omega));obtain⟨Y,hYe⟩:∃ Y,Y=B x.up:=⟨_,rfl⟩;have CA':=CA.out;have HFx':=HFx.out;rw [<-hYe] at CA' HFx' hY;have CA:=qh CA';have HFx:=qh HFx';clear h40 hF hB h20 hn20 hAlt hGo hYe CA' HFx' hup;go_enter Tryz.func193,Tryz.ntmps193;go_wp2_with fail;refine CN.out.mono ?_;rintro e w1 ⟨rfl,qq,hq1⟩;clear hW;have HX:Hid (Ux w g s x op w1):=qh (by rw [hq1];exact HX0.out.step (below_drewN (Below.refl _ _) qq));clear hq1;obtain⟨c0,c1,c2,c3⟩:=HX.out.rd.facts;obtain⟨_,cf1,cf2⟩:=Blk.f3 HX.out.rd;have HXa:=qh (HX.out.upP.opn (op+1));go_wp2_with fail;refine(CA.out _ HXa.out.rd).mono ?_;rintro e w4 ⟨x0,x1,x2,x3,x4,xA,xl,xc,rfl,hr4,hk4,ht4⟩;have hU4:=HXa.out.kept hr4 hk4;have hz4:w.heap.size<w4.heap.size:=Blk.lt hU4.re;have hX1:Tx w g w4.heap.size s Y.2 (op+1) (six x0 x1 x2 x3 x4 xA xl xc) (w4.alloc (.cells #[.int .i64 x0,.int .u64 x1,.int .u64 x2,.int .u64 x3,.int .u64 x4,.slice xA xl xc] 125)):=⟨Blk.alloc hU4.rd _,Blk.alloc hU4.re _,Blk.new w4 _ _,hU4.ko.alloc _,hU4.lt,hz4⟩;have hsz:w.heap.size<((w1.setCell ⟨g,1,none⟩ (.int .i64 ((x.p:Int)+1))).setCell ⟨g,2,none⟩ (.int .i64 (op+1))).heap.size:=Blk.lt HXa.out.re
    have HT1:Hid (Y.2.e=0->∃ n,RxT (w4.alloc (.cells #[.int .i64 x0,.int .u64 x1,.int .u64 x2,.int .u64 x3,.int .u64 x4,.slice xA xl xc] 125)) (InT w w4.heap.size (w4.alloc (.cells #[.int .i64 x0,.int .u64 x1,.int .u64 x2,.int .u64 x3,.int .u64 x4,.slice xA xl xc] 125))) n Y.1 (six x0 x1 x2 x3 x4 xA xl xc)):=qh λ hy=>by
     obtain⟨n,hn⟩:=ht4 hy;refine⟨n,(hn.below ((Below.refl _ _).alloc (Nat.le_refl _) _) λ b hb=>hb.2).weak λ b hb=>⟨Nat.lt_of_lt_of_le hsz hb.1,by simp;omega,by omega⟩⟩
    have HX1:=qh hX1;clear hX1 hU4 hr4 hk4 ht4 hsz HX HXa c0 c1 c2 c3 cf1 cf2;go_upto_region 8 with fail;obtain⟨gT,hgT⟩:∃ gT,w4.heap.size=gT:=⟨_,rfl⟩;rw [hgT] at HX1 HT1⊢;obtain⟨W1,hW1⟩:∃ W1,w4.alloc (.cells #[.int .i64 x0,.int .u64 x1,.int .u64 x2,.int .u64 x3,.int .u64 x4,.slice xA xl xc] 125)=W1:=⟨_,rfl⟩;rw [hW1] at HX1 HT1⊢;clear hW1 hgT hz4;obtain⟨c0,c1,c2,c3⟩:=HX1.out.rd.facts;have cf2:=Blk.frozen HX1.out.rd 2;have HX2:Hid (Tx w g gT s Y.2 op (six x0 x1 x2 x3 x4 xA xl xc) (W1.setCell ⟨g,2,none⟩ (.int .i64 op))):=qh (HX1.out.opn op)
    have HT2:Hid (Y.2.e=0->∃ n,RxT (W1.setCell ⟨g,2,none⟩ (.int .i64 op)) (InT w gT (W1.setCell ⟨g,2,none⟩ (.int .i64 op))) n Y.1 (six x0 x1 x2 x3 x4 xA xl xc)):=qh λ hy=>by
     obtain⟨n,hn⟩:=HT1.out hy;have hgl:=HX1.out.lt;exact⟨n,(hn.store (p:=⟨g,2,none⟩) (λ k=>by have:=k.1;dsimp only at this;omega) _).weak λ b hb=>⟨hb.1,by simpa [World.setCell] using hb.2.1,hb.2.2⟩⟩
    go_upto_region 9 with fail;obtain⟨W2,hW2⟩:∃ W2,W1.setCell ⟨g,2,none⟩ (.int .i64 op)=W2:=⟨_,rfl⟩;rw [hW2] at HX2 HT2⊢;clear hW2 c0 c1 c2 c3 cf2 HX1 HT1;by_cases h41:nx s Y.2=41
    focus
     obtain⟨y,hyY⟩:∃ y,y=Y.2.up:=⟨_,rfl⟩;have HFe:Hid (F=(Y.1,y)):=qh (by rw [HFx.out,if_pos h41,hyY]);go_wp2_with fail;refine(Qe5 hs hY.1 h41 _ HX2.out.rd).mono ?_;rintro e w9 ⟨rfl,hr9,hk9⟩;rw [<-hyY] at hr9;have HX9:=qh (HX2.out.kept hr9 hk9)
     have HT9:Hid (y.e=0->∃ n,RxT w9 (InT w gT w9) n Y.1 (six x0 x1 x2 x3 x4 xA xl xc)):=qh λ hy=>by
      obtain⟨n,hn⟩:=HT2.out (by rw [hyY] at hy;exact hy);have hgl:=HX2.out.lt;exact⟨n,(hn.off hk9 λ b hb=>⟨hb.2.1,by have:=hb.1;omega⟩).weak λ b hb=>⟨hb.1,Nat.lt_of_lt_of_le hb.2.1 hk9.size,hb.2.2⟩⟩
     clear hr9 hk9 h41 hyY HX2 HT2
    rotate_left
    focus
     obtain⟨y,hyY⟩:∃ y,y=Y.2.fl 3:=⟨_,rfl⟩;have HFe:Hid (F=(Y.1,y)):=qh (by rw [HFx.out,if_neg h41,hyY]);have hye:¬y.e=0:=(by rw [hyY];exact fl_e (by decide));go_wp2_with fail;refine(zE4 hs hY.1 h41 _ HX2.out.rd).mono ?_;rintro e w8 ⟨rfl,hr8,hk8⟩;have HX8:=qh (HX2.out.kept hr8 hk8);clear hr8 hk8;go_wp2_with fail;refine(z88 s Y.2 op g _ 3 HX8.out.rd).mono ?_;rintro e w9 ⟨rfl,hr9,hk9⟩;rw [<-hyY] at hr9;have HX9:=qh (HX8.out.kept hr9 hk9);have HT9:Hid (y.e=0->∃ n,RxT w9 (InT w gT w9) n Y.1 (six x0 x1 x2 x3 x4 xA xl xc)):=qh λ hy=>absurd hy hye
     clear hr9 hk9 h41 hyY HX2 HT2 HX8 hye
    all_goals
     obtain⟨t,ht⟩:∃ t,t=Y.1:=⟨_,rfl⟩;rw [<-ht] at HFe HT9;obtain⟨s0,s1,s2,s3,s4,s5⟩:=Blk.c6 HX9.out.te;obtain⟨r0,r1,r2,r3,r4,r5⟩:=Blk.c6 HX9.out.re;obtain⟨fr0,fr1,fr2,fr3,fr4,fr5⟩:=Blk.f6 HX9.out.re;have HZ:=qh (J42 (cs:= [.int .i64 0,.int .u64 0,.int .u64 0,.int .u64 0,.int .u64 0,.slice none 0 0]) HX9.out.re rfl x0 x1 x2 x3 x4 xA xl xc);have hne:=HX9.out.lt;have HZK:=qh (HX9.out.ko.put6 (Nat.le_refl _) x0 x1 x2 x3 x4 xA xl xc);have HZR:=qh (Blk.far6 HX9.out.rd (by omega:w.heap.size≠g) x0 x1 x2 x3 x4 xA xl xc);have HZS:=qh (j80 w9 w.heap.size x0 x1 x2 x3 x4 xA xl xc)
     have HZT:Hid (y.e=0->∃ n,RxT ((((((w9.setCell ⟨w.heap.size,0,none⟩ (.int .i64 x0)).setCell ⟨w.heap.size,1,none⟩ (.int .u64 x1)).setCell ⟨w.heap.size,2,none⟩ (.int .u64 x2)).setCell ⟨w.heap.size,3,none⟩ (.int .u64 x3)).setCell ⟨w.heap.size,4,none⟩ (.int .u64 x4)).setCell ⟨w.heap.size,5,none⟩ (.slice xA xl xc)) (λ b=>w.heap.size<=b/\b<w9.heap.size) n t (six x0 x1 x2 x3 x4 xA xl xc)):=qh λ hy=>by
      obtain⟨n,hn⟩:=HT9.out hy;exact⟨n,(hn.put6 (λ k=>absurd k.1 (Nat.lt_irrefl _)) x0 x1 x2 x3 x4 xA xl xc).weak λ b hb=>⟨Nat.le_of_lt hb.1,hb.2.1⟩⟩
     clear HX9;go_wp2_with fail;obtain⟨wz,hwz⟩:∃ wz,wz=((((((w9.setCell ⟨w.heap.size,0,none⟩ (.int .i64 x0)).setCell ⟨w.heap.size,1,none⟩ (.int .u64 x1)).setCell ⟨w.heap.size,2,none⟩ (.int .u64 x2)).setCell ⟨w.heap.size,3,none⟩ (.int .u64 x3)).setCell ⟨w.heap.size,4,none⟩ (.int .u64 x4)).setCell ⟨w.heap.size,5,none⟩ (.slice xA xl xc)):=⟨_,rfl⟩;have hz:=HZ.out;have hzk:=HZK.out;have hzr:=HZR.out;have hzs:=HZS.out;have hzt:=HZT.out;rw [<-hwz] at hz hzk hzr hzs hzt⊢;obtain⟨z0,z1,z2,z3,z4,z5⟩:=Blk.c6 hz
     refine bodyPost_ret (v:= .agg #[.int .i64 x0,.int .u64 x1,.int .u64 x2,.int .u64 x3,.int .u64 x4,.slice xA xl xc]) (by simp [results,Tryz.results193,go_sem,z0,z1,z2,z3,z4,z5]) rfl ⟨x0,x1,x2,x3,x4,xA,xl,xc,rfl,by rw [HFe.out];exact hzr,hzk,λ hy=>by
      rw [HFe.out] at hy⊢;obtain⟨n,hn⟩:=hzt hy;exact⟨n,hn.weak λ b hb=>⟨hb.1,by omega⟩⟩⟩
 . have f40:(nx s x==40)=false:=(by rw [beq_eq_false_iff_ne];exact h40);by_cases h46:nx s x=46
   focus
    have HFe0:Hid (F=(kZ7 (mkQ λ b=>decide (¬b=10)),x.up)):=qh (by rw [hF];unfold amG;rw [if_neg h40,if_pos h46]);clear hF hB h20;go_enter Tryz.func193,Tryz.ntmps193;go_wp2_with fail;refine CN.out.mono ?_;rintro e w1 ⟨rfl,qq,hq1⟩;clear hW;have HX:Hid (Ux w g s x op w1):=qh (by rw [hq1];exact HX0.out.step (below_drewN (Below.refl _ _) qq));clear hq1;go_wp2_with fail;refine(Qe5 hs hp (show nx s x=46 by omega) _ HX.out.rd).mono ?_;rintro e w2 ⟨rfl,hr2,hk2⟩;replace HX:=qh (HX.out.kept hr2 hk2);clear hr2 hk2;go_wp2_with fail;refine(ZL2 10 10 (by omega) _).mono ?_;rintro e w3 ⟨q3,rfl,hq3,hb3⟩;replace HX:=qh (HX.out.step hb3);go_wp2_with fail;refine(notA q3 hq3.1 _).mono ?_;rintro e w9 ⟨q,rfl,hq,hb9⟩;replace HX:=qh (HX.out.step hb9);have HSq:Hid (SetOf q (λ b=> !J03 10 10 b)):=qh (by rw [hq];exact xx2 hq3)
    have hqm:q=mkQ λ b=>decide (¬b=10):=ZB8 HSq.out λ b hb=>by
     unfold J03;rw [Bool.eq_iff_iff];simp;omega
    have HFe:Hid (F=(kZ7 q,x.up)):=qh (by rw [hqm];exact HFe0.out);clear hb3 hb9 hq hq3 hqm;have hre:=HX.out.re;have hko:=HX.out.ko;have hrd:=HX.out.rd;obtain⟨r0,r1,r2,r3,r4,r5⟩:=Blk.c6 hre;obtain⟨fr0,fr1,fr2,fr3,fr4,fr5⟩:=Blk.f6 hre;have HZ:=qh (J42 (cs:= [.int .i64 0,.int .u64 0,.int .u64 0,.int .u64 0,.int .u64 0,.slice none 0 0]) hre rfl 3 q.a q.b q.c q.d none 0 0);have HZK:=qh (hko.put6 (Nat.le_refl _) 3 q.a q.b q.c q.d none 0 0);have HZR:=qh (Blk.far6 hrd (by omega:w.heap.size≠g) 3 q.a q.b q.c q.d none 0 0);clear hre hko hrd;go_wp2_with fail;obtain⟨wz,hwz⟩:∃ wz,wz=((((((w9.setCell ⟨w.heap.size,0,none⟩ (.int .i64 3)).setCell ⟨w.heap.size,1,none⟩ (.int .u64 (q.a:Int))).setCell ⟨w.heap.size,2,none⟩ (.int .u64 (q.b:Int))).setCell ⟨w.heap.size,3,none⟩ (.int .u64 (q.c:Int))).setCell ⟨w.heap.size,4,none⟩ (.int .u64 (q.d:Int))).setCell ⟨w.heap.size,5,none⟩ (.slice none 0 0)):=⟨_,rfl⟩
   rotate_left
   focus
    skip
    by_cases h94:nx s x=94
    focus
     have HFe:Hid (F=(Y41 7,x.up)):=qh (by rw [hF];unfold amG;rw [if_neg h40,if_neg h46,if_pos h94]);clear hF hB h20;go_enter Tryz.func193,Tryz.ntmps193;go_wp2_with fail;refine CN.out.mono ?_;rintro e w1 ⟨rfl,qq,hq1⟩;clear hW;have HX:Hid (Ux w g s x op w1):=qh (by rw [hq1];exact HX0.out.step (below_drewN (Below.refl _ _) qq));clear hq1;go_wp2_with fail;refine(zE4 hs hp (show ¬nx s x=46 by omega) _ HX.out.rd).mono ?_;rintro e w2 ⟨rfl,hr2,hk2⟩;replace HX:=qh (HX.out.kept hr2 hk2);clear hr2 hk2;go_wp2_with fail;refine(Qe5 hs hp (show nx s x=94 by omega) _ HX.out.rd).mono ?_;rintro e w2 ⟨rfl,hr2,hk2⟩;replace HX:=qh (HX.out.kept hr2 hk2);clear hr2 hk2;go_wp2_with fail;refine(yF4 7 _).mono ?_;rintro e w9 ⟨rfl,hb9⟩;replace HX:=qh (HX.out.step hb9);clear hb9;have hre:=HX.out.re;have hko:=HX.out.ko;have hrd:=HX.out.rd;obtain⟨r0,r1,r2,r3,r4,r5⟩:=Blk.c6 hre;obtain⟨fr0,fr1,fr2,fr3,fr4,fr5⟩:=Blk.f6 hre;have HZ:=qh (J42 (cs:= [.int .i64 0,.int .u64 0,.int .u64 0,.int .u64 0,.int .u64 0,.slice none 0 0]) hre rfl 7 0 0 0 0 none 0 0);have HZK:=qh (hko.put6 (Nat.le_refl _) 7 0 0 0 0 none 0 0);have HZR:=qh (Blk.far6 hrd (by omega:w.heap.size≠g) 7 0 0 0 0 none 0 0);clear hre hko hrd;go_wp2_with fail;obtain⟨wz,hwz⟩:∃ wz,wz=((((((w9.setCell ⟨w.heap.size,0,none⟩ (.int .i64 7)).setCell ⟨w.heap.size,1,none⟩ (.int .u64 0)).setCell ⟨w.heap.size,2,none⟩ (.int .u64 0)).setCell ⟨w.heap.size,3,none⟩ (.int .u64 0)).setCell ⟨w.heap.size,4,none⟩ (.int .u64 0)).setCell ⟨w.heap.size,5,none⟩ (.slice none 0 0)):=⟨_,rfl⟩
    rotate_left
    focus
     skip
     by_cases h36:nx s x=36
     focus
      have HFe:Hid (F=(Y41 8,x.up)):=qh (by rw [hF];unfold amG;rw [if_neg h40,if_neg h46,if_neg h94,if_pos h36]);clear hF hB h20;go_enter Tryz.func193,Tryz.ntmps193;go_wp2_with fail;refine CN.out.mono ?_;rintro e w1 ⟨rfl,qq,hq1⟩;clear hW;have HX:Hid (Ux w g s x op w1):=qh (by rw [hq1];exact HX0.out.step (below_drewN (Below.refl _ _) qq));clear hq1;go_wp2_with fail;refine(zE4 hs hp (show ¬nx s x=46 by omega) _ HX.out.rd).mono ?_;rintro e w2 ⟨rfl,hr2,hk2⟩;replace HX:=qh (HX.out.kept hr2 hk2);clear hr2 hk2;go_wp2_with fail;refine(zE4 hs hp (show ¬nx s x=94 by omega) _ HX.out.rd).mono ?_;rintro e w2 ⟨rfl,hr2,hk2⟩;replace HX:=qh (HX.out.kept hr2 hk2);clear hr2 hk2;go_wp2_with fail;refine(Qe5 hs hp (show nx s x=36 by omega) _ HX.out.rd).mono ?_;rintro e w2 ⟨rfl,hr2,hk2⟩;replace HX:=qh (HX.out.kept hr2 hk2);clear hr2 hk2;go_wp2_with fail;refine(yF4 8 _).mono ?_;rintro e w9 ⟨rfl,hb9⟩;replace HX:=qh (HX.out.step hb9);clear hb9;have hre:=HX.out.re;have hko:=HX.out.ko;have hrd:=HX.out.rd;obtain⟨r0,r1,r2,r3,r4,r5⟩:=Blk.c6 hre;obtain⟨fr0,fr1,fr2,fr3,fr4,fr5⟩:=Blk.f6 hre;have HZ:=qh (J42 (cs:= [.int .i64 0,.int .u64 0,.int .u64 0,.int .u64 0,.int .u64 0,.slice none 0 0]) hre rfl 8 0 0 0 0 none 0 0);have HZK:=qh (hko.put6 (Nat.le_refl _) 8 0 0 0 0 none 0 0);have HZR:=qh (Blk.far6 hrd (by omega:w.heap.size≠g) 8 0 0 0 0 none 0 0);clear hre hko hrd;go_wp2_with fail;obtain⟨wz,hwz⟩:∃ wz,wz=((((((w9.setCell ⟨w.heap.size,0,none⟩ (.int .i64 8)).setCell ⟨w.heap.size,1,none⟩ (.int .u64 0)).setCell ⟨w.heap.size,2,none⟩ (.int .u64 0)).setCell ⟨w.heap.size,3,none⟩ (.int .u64 0)).setCell ⟨w.heap.size,4,none⟩ (.int .u64 0)).setCell ⟨w.heap.size,5,none⟩ (.slice none 0 0)):=⟨_,rfl⟩
     rotate_left
     focus
      skip
      by_cases h91:nx s x=91
      focus
       have HFe0:Hid (F=(kZ7 (cls s x.up).1,(cls s x.up).2)):=qh (by rw [hF];unfold amG;rw [if_neg h40,if_neg h46,if_neg h94,if_neg h36,if_pos h91]);have hup:=kx8 (s:=s) (x:=x) (by omega);have hxe:x.up.e=0:=he;clear hF hB h20;go_enter Tryz.func193,Tryz.ntmps193;go_wp2_with fail;refine CN.out.mono ?_;rintro e w1 ⟨rfl,qq,hq1⟩;clear hW;have HX:Hid (Ux w g s x op w1):=qh (by rw [hq1];exact HX0.out.step (below_drewN (Below.refl _ _) qq));clear hq1;go_wp2_with fail;refine(zE4 hs hp (show ¬nx s x=46 by omega) _ HX.out.rd).mono ?_;rintro e w2 ⟨rfl,hr2,hk2⟩;replace HX:=qh (HX.out.kept hr2 hk2);clear hr2 hk2;go_wp2_with fail;refine(zE4 hs hp (show ¬nx s x=94 by omega) _ HX.out.rd).mono ?_;rintro e w2 ⟨rfl,hr2,hk2⟩;replace HX:=qh (HX.out.kept hr2 hk2);clear hr2 hk2;go_wp2_with fail;refine(zE4 hs hp (show ¬nx s x=36 by omega) _ HX.out.rd).mono ?_;rintro e w2 ⟨rfl,hr2,hk2⟩;replace HX:=qh (HX.out.kept hr2 hk2);clear hr2 hk2;go_wp2_with fail;refine(Qe5 hs hp (show nx s x=91 by omega) _ HX.out.rd).mono ?_;rintro e w2 ⟨rfl,hr2,hk2⟩;replace HX:=qh (HX.out.kept hr2 hk2);clear hr2 hk2;go_wp2_with fail;refine(Xk8 s hs x.up op g _ hxe hup.hi HX.out.rd).mono ?_;rintro e w9 ⟨q,rfl,hq,hqo,hr9,hk9⟩;replace HX:=qh (HX.out.kept hr9 hk9);have HFe:Hid (F=(kZ7 q,(cls s x.up).2)):=qh (by rw [hq];exact HFe0.out);clear hq hr9 hk9
      rotate_left
      focus
       skip
       have HFm:Hid (F=match gr s x with
        |some g=>(kZ7 (mkQ g),x.up.up)
        |none=>(kZ7 (mkQ (J03 (ch s x).1 (ch s x).1)),(ch s x).2)):=qh (by rw [hF];unfold amG;rw [if_neg h40,if_neg h46,if_neg h94,if_neg h36,if_neg h91])
       clear hF hB h20;go_enter Tryz.func193,Tryz.ntmps193;go_wp2_with fail;refine CN.out.mono ?_;rintro e w1 ⟨rfl,qq,hq1⟩;clear hW;have HX:Hid (Ux w g s x op w1):=qh (by rw [hq1];exact HX0.out.step (below_drewN (Below.refl _ _) qq));clear hq1;go_wp2_with fail;refine(zE4 hs hp (show ¬nx s x=46 by omega) _ HX.out.rd).mono ?_;rintro e w2 ⟨rfl,hr2,hk2⟩;replace HX:=qh (HX.out.kept hr2 hk2);clear hr2 hk2;go_wp2_with fail;refine(zE4 hs hp (show ¬nx s x=94 by omega) _ HX.out.rd).mono ?_;rintro e w2 ⟨rfl,hr2,hk2⟩;replace HX:=qh (HX.out.kept hr2 hk2);clear hr2 hk2;go_wp2_with fail;refine(zE4 hs hp (show ¬nx s x=36 by omega) _ HX.out.rd).mono ?_;rintro e w2 ⟨rfl,hr2,hk2⟩;replace HX:=qh (HX.out.kept hr2 hk2);clear hr2 hk2;go_wp2_with fail;refine(zE4 hs hp (show ¬nx s x=91 by omega) _ HX.out.rd).mono ?_;rintro e w2 ⟨rfl,hr2,hk2⟩;replace HX:=qh (HX.out.kept hr2 hk2);clear hr2 hk2;go_wp2_with fail;refine(ku6 s hs x op g _ he hp HX.out.rd).mono ?_;rintro e w3 ⟨q3,ok,rfl,hok,hset,hq3,hr3,hk3⟩;have HX3:=qh (HX.out.kept hr3 hk3);cases ok
       focus
        have hgn:gr s x=none:=Option.not_isSome_iff_eq_none.1 (by rw [<-hok];decide);obtain⟨lo,hlo1⟩:∃ lo:Nat,(ch s x).1=(lo:Int):=⟨(ch s x).1.toNat,by have:=Ym2 s x;omega⟩;have hlo2:lo<=255:=(by have:=Ym2 s x;omega);obtain⟨y,hy⟩:∃ y,y=(ch s x).2:=⟨_,rfl⟩
        have CH:Hid (∀ w',Rd w' g s x op->Calls Tryz.prog 218 #[.pointer (some ⟨g,0,none⟩)] w' λ e w''=>e= .returned (.int .i64 (lo:Int))/\Rd w'' g s y op/\KeptOff w' w'' g):=qh λ w' hr=>by
         have:=Yk1 s hs x op g w' hp hr;rw [hlo1,<-hy] at this;exact this
        have HFe0:Hid (F=(kZ7 (mkQ (J03 (lo:Int) (lo:Int))),y)):=qh (by rw [HFm.out,hgn];dsimp only;rw [hlo1,<-hy]);have HX4:=qh (HX3.out.step ((Below.refl _ _).alloc (Nat.le_refl _) (.cells #[.int .u64 (q3.a:Int),.int .u64 (q3.b:Int),.int .u64 (q3.c:Int),.int .u64 (q3.d:Int)] 122)));clear hok hset hgn hr3 hk3 HX3 HX hlo1 hy;go_upto_region 23 with fail;obtain⟨w4,hw4⟩:∃ w4,w3.alloc (.cells #[.int .u64 (q3.a:Int),.int .u64 (q3.b:Int),.int .u64 (q3.c:Int),.int .u64 (q3.d:Int)] 122)=w4:=⟨_,rfl⟩;rw [hw4] at HX4⊢;have HX:Hid (Ux w g s x op w4):=HX4;clear hw4 HX4;go_wp2_with fail;refine(CH.out _ HX.out.rd).mono ?_;rintro e w5 ⟨rfl,hr5,hk5⟩;replace HX:=qh (HX.out.kept hr5 hk5);clear hr5 hk5;go_wp2_with fail;refine(ZL2 lo lo (by omega) _).mono ?_;rintro e w9 ⟨q,rfl,hq,hb9⟩;replace HX:=qh (HX.out.step hb9);have HFe:Hid (F=(kZ7 q,y)):=qh (by rw [ZB8 hq λ _ _=>rfl];exact HFe0.out);have hqo:=hq.1;clear hb9 hq
       rotate_left
       focus
        obtain⟨gf,hgf⟩:∃ gf,gr s x=some gf:=Option.isSome_iff_exists.1 hok.symm;have HFe:Hid (F=(kZ7 q3,x.up.up)):=qh (by rw [ZB8 (hset gf hgf) λ _ _=>rfl,HFm.out,hgf]);have HX4:=qh (HX3.out.step ((Below.refl _ _).alloc (Nat.le_refl _) (.cells #[.int .u64 (q3.a:Int),.int .u64 (q3.b:Int),.int .u64 (q3.c:Int),.int .u64 (q3.d:Int)] 122)));have hk6:=SBlk.lit w3 q3;clear hok hset hgf hr3 hk3 HX3 HX;go_upto_region 22 with fail;obtain⟨w9,hw9⟩:∃ w9,w3.alloc (.cells #[.int .u64 (q3.a:Int),.int .u64 (q3.b:Int),.int .u64 (q3.c:Int),.int .u64 (q3.d:Int)] 122)=w9:=⟨_,rfl⟩;rw [hw9] at HX4 hk6⊢;obtain⟨g6,hg6⟩:∃ g6,w3.heap.size=g6:=⟨_,rfl⟩;rw [hg6] at hk6⊢;obtain⟨q,rfl⟩:∃ q,q=q3:=⟨_,rfl⟩;obtain⟨s0,s1,s2,s3⟩:=Blk.c4 hk6;have HX:Hid (Ux w g s x.up.up op w9):=HX4;clear hw9 hg6 hk6 HX4
       rotate_left
      rotate_left 2
      all_goals
       have hre:=HX.out.re;have hko:=HX.out.ko;have hrd:=HX.out.rd;obtain⟨r0,r1,r2,r3,r4,r5⟩:=Blk.c6 hre;obtain⟨fr0,fr1,fr2,fr3,fr4,fr5⟩:=Blk.f6 hre;have HZ:=qh (J42 (cs:= [.int .i64 0,.int .u64 0,.int .u64 0,.int .u64 0,.int .u64 0,.slice none 0 0]) hre rfl 3 q.a q.b q.c q.d none 0 0);have HZK:=qh (hko.put6 (Nat.le_refl _) 3 q.a q.b q.c q.d none 0 0);have HZR:=qh (Blk.far6 hrd (by omega:w.heap.size≠g) 3 q.a q.b q.c q.d none 0 0);clear hre hko hrd;go_wp2_with fail;obtain⟨wz,hwz⟩:∃ wz,wz=((((((w9.setCell ⟨w.heap.size,0,none⟩ (.int .i64 3)).setCell ⟨w.heap.size,1,none⟩ (.int .u64 (q.a:Int))).setCell ⟨w.heap.size,2,none⟩ (.int .u64 (q.b:Int))).setCell ⟨w.heap.size,3,none⟩ (.int .u64 (q.c:Int))).setCell ⟨w.heap.size,4,none⟩ (.int .u64 (q.d:Int))).setCell ⟨w.heap.size,5,none⟩ (.slice none 0 0)):=⟨_,rfl⟩
     rotate_left 3
    rotate_left 4
   rotate_left 5
   all_goals
    have hz:=HZ.out;have hzk:=HZK.out;have hzr:=HZR.out;rw [<-hwz] at hz hzk hzr⊢;obtain⟨z0,z1,z2,z3,z4,z5⟩:=Blk.c6 hz
   . refine bodyPost_ret (v:= .agg #[.int .i64 3,.int .u64 (q.a:Int),.int .u64 (q.b:Int),.int .u64 (q.c:Int),.int .u64 (q.d:Int),.slice none 0 0]) (by simp [results,Tryz.results193,go_sem,z0,z1,z2,z3,z4,z5]) rfl ⟨3,q.a,q.b,q.c,q.d,none,0,0,rfl,by rw [HFe.out];exact hzr,hzk,λ hy=>by
      rw [HFe.out];exact⟨1,RxT.leaf wz _ 3 q HSq.out.1 (by decide) (by decide)⟩⟩
   . refine bodyPost_ret (v:= .agg #[.int .i64 7,.int .u64 0,.int .u64 0,.int .u64 0,.int .u64 0,.slice none 0 0]) (by simp [results,Tryz.results193,go_sem,z0,z1,z2,z3,z4,z5]) rfl ⟨7,0,0,0,0,none,0,0,rfl,by rw [HFe.out];exact hzr,hzk,λ hy=>by
      rw [HFe.out];exact⟨1,RxT.leaf wz _ 7 zq q30 (by decide) (by decide)⟩⟩
   . refine bodyPost_ret (v:= .agg #[.int .i64 8,.int .u64 0,.int .u64 0,.int .u64 0,.int .u64 0,.slice none 0 0]) (by simp [results,Tryz.results193,go_sem,z0,z1,z2,z3,z4,z5]) rfl ⟨8,0,0,0,0,none,0,0,rfl,by rw [HFe.out];exact hzr,hzk,λ hy=>by
      rw [HFe.out];exact⟨1,RxT.leaf wz _ 8 zq q30 (by decide) (by decide)⟩⟩
   . refine bodyPost_ret (v:= .agg #[.int .i64 3,.int .u64 (q.a:Int),.int .u64 (q.b:Int),.int .u64 (q.c:Int),.int .u64 (q.d:Int),.slice none 0 0]) (by simp [results,Tryz.results193,go_sem,z0,z1,z2,z3,z4,z5]) rfl ⟨3,q.a,q.b,q.c,q.d,none,0,0,rfl,by rw [HFe.out];exact hzr,hzk,λ hy=>by
      rw [HFe.out];exact⟨1,RxT.leaf wz _ 3 q hqo (by decide) (by decide)⟩⟩
   . refine bodyPost_ret (v:= .agg #[.int .i64 3,.int .u64 (q.a:Int),.int .u64 (q.b:Int),.int .u64 (q.c:Int),.int .u64 (q.d:Int),.slice none 0 0]) (by simp [results,Tryz.results193,go_sem,z0,z1,z2,z3,z4,z5]) rfl ⟨3,q.a,q.b,q.c,q.d,none,0,0,rfl,by rw [HFe.out];exact hzr,hzk,λ hy=>by
      rw [HFe.out];exact⟨1,RxT.leaf wz _ 3 q hqo (by decide) (by decide)⟩⟩
   . refine bodyPost_ret (v:= .agg #[.int .i64 3,.int .u64 (q.a:Int),.int .u64 (q.b:Int),.int .u64 (q.c:Int),.int .u64 (q.d:Int),.slice none 0 0]) (by simp [results,Tryz.results193,go_sem,z0,z1,z2,z3,z4,z5]) rfl ⟨3,q.a,q.b,q.c,q.d,none,0,0,rfl,by rw [HFe.out];exact hzr,hzk,λ hy=>by
      rw [HFe.out];exact⟨1,RxT.leaf wz _ 3 q hq3 (by decide) (by decide)⟩⟩
theorem Xm8:∀ a b:List Rx,szL (a++b)=szL a+szL b
 | [],b=>by rw [List.nil_append,szL,Nat.zero_add]
 |x::a,b=>by rw [List.cons_append,szL,szL,Xm8 a b];omega
theorem yG5 {ks:List Rx} {j:Nat} (h:j<ks.length):szL (ks.take (j+1))=szL (ks.take j)+szR ks[j]:=by
 rw [List.take_succ_eq_append_getElem h,Xm8,szL,szL];omega
theorem Q85 (ks:List Rx) (j:Nat):szL (ks.take j)<=szL ks:=by
 conv=>rhs;rw [<-List.take_append_drop j ks]
 rw [Xm8];omega
def KV0 (n:Nat):Nat:=if n<=81 then n else 81
theorem xV9 {a:Nat} (h:a<=81):KV0 a=a:=if_pos h
theorem xk4 {a:Nat} (h:¬a<=81):KV0 a=81:=if_neg h
theorem jF3 {a b:Nat} (h:80<KV0 a) (h2:a<=b):KV0 b=KV0 a:=by
 by_cases ha:a<=81
 . rw [xV9 ha] at h⊢;by_cases hb:b<=81
   . rw [xV9 hb];omega
   . rw [xk4 hb];omega
 . rw [xk4 ha,xk4 (by omega)]
theorem j45 {a:Nat} (c:Nat) (h:¬80<KV0 a):KV0 (KV0 a+c)=KV0 (a+c):=by
 by_cases ha:a<=81
 . rw [xV9 ha]
 . rw [xk4 ha] at h;omega
theorem q65 (a:Nat):KV0 a<=80<->a<=80:=by
 unfold KV0;split<;>omega
def Kt1 (n:Nat) (r:Rx):Nat:=KV0 (n+szR r)
def SzOk (F:FuncId) (d:Nat):Prop:=∀ (r:Rx) (cs:List Value) (n B:Nat) (w:World),RxC w B d r cs->B<=w.heap.size->n<=80->Calls Tryz.prog F #[.agg cs.toArray,.int .i64 (n:Int)] w λ e w'=>e= .returned (.int .i64 (Kt1 n r:Int))/\Below w.heap.size w w'
set_option maxRecDepth 100000 in
set_option maxHeartbeats 4000000 in
theorem jc2 (d:Nat) (ih:SzOk 194 d):SzOk 194 (d+1):=by
 rintro⟨k,s,ks⟩ cs n B w ⟨hs,hk,A,cap,e,hlc,hcap,hblk,hel⟩ hB hn;have HI:=qh ih;clear ih;subst e;simp only [Rx.k,Rx.s,Rx.ks] at hs hk hlc hcap hblk hel⊢;have ecs:(ZF1 k s A ks.length cap).toArray=#[.int .i64 k,.int .u64 (s.a:Int),.int .u64 (s.b:Int),.int .u64 (s.c:Int),.int .u64 (s.d:Int),.slice A ks.length cap]:=rfl;rw [ecs];clear ecs;obtain⟨W,hW⟩:∃ W,w.alloc (.cells #[.int .i64 k,.int .u64 (s.a:Int),.int .u64 (s.b:Int),.int .u64 (s.c:Int),.int .u64 (s.d:Int),.slice A ks.length cap] 125)=W:=⟨_,rfl⟩;have hK:Blk W w.heap.size 125 #[.int .i64 k,.int .u64 (s.a:Int),.int .u64 (s.b:Int),.int .u64 (s.c:Int),.int .u64 (s.d:Int),.slice A ks.length cap]:=by rw [<-hW];exact Blk.new w _ _
 have hWb:Below w.heap.size w W:=by rw [<-hW];exact(Below.refl _ _).alloc (Nat.le_refl _) _
 have c5:=Blk.e5 hK;have hS:Kt1 n (.mk k s ks)=KV0 (n+1+szL ks):=by unfold Kt1;rw [szR];congr 1;omega
 obtain⟨R,hR⟩:∃ R,R=Kt1 n (.mk k s ks):=⟨_,rfl⟩;rw [<-hR] at hS⊢;have HS:=qh hS;have HWB:=qh hWb;have hw1:IntKind.i64.wrap ((n:Int)+1)=(n:Int)+1:=IntWalk.i64_in _ (by omega);clear hS hR hK hWb;go_enter Tryz.func194,Tryz.ntmps194;go_wp2_with fail;go_loopw [1,12] (λ a i wr=>∃ j m:Nat,i= .int .i64 (j:Int)/\a= .int .i64 (m:Int)/\j<=ks.length/\m=KV0 (n+1+szL (ks.take j))/\Below w.heap.size w wr) (λ _ i _=>ks.length-(intOf i).toNat)
 case atStart=>exact⟨0,n+1,rfl,rfl,Nat.zero_le _,by rw [List.take_zero,szL];unfold KV0;rw [if_pos (by omega)],HWB.out⟩
 case round=>
  obtain⟨j,m,rfl,rfl,hj,hm,hb⟩:=hrel;have HB:=qh hb;have hle:=Q85 ks j;by_cases hlt:j<ks.length
  . obtain⟨ad,cs',rfl,hc,hr⟩:=hel j ks[j] (List.getElem?_eq_getElem hlt);obtain⟨_,e',hbk⟩:=hblk (by omega);injection e' with e';subst e';have HR:=qh (hr.below (hb.mono hB));obtain⟨a0,a1,a2,a3,a4,A5,l5,cap5,rfl⟩:=hr.six;obtain⟨d0,d1,d2,d3,d4,d5⟩:=XW8 (w':=wr) hc hbk (hb.mono hB);have htk:=yG5 hlt;have hbz:B<=wr.heap.size:=Nat.le_trans hB hb.size;by_cases h80:80<m
    . have hR81:R=m:=(by rw [HS.out,hm];rw [hm] at h80;exact jF3 h80 (by omega));have HR81:=qh hR81;have i80:(80:Int)<(m:Int):=(by omega);clear hm hb hle htk h80 hR81 hel hc hr;go_wp2_with fail;go_ret;exact⟨by rw [HR81.out];rfl,HB.out.alloc HB.out.size _⟩
    . have i80:¬(80:Int)<(m:Int):=(by omega);have hm2:Kt1 m ks[j]=KV0 (n+1+szL (ks.take (j+1))):=(by unfold Kt1;rw [hm] at h80⊢;rw [j45 _ h80,htk];congr 1;omega);have CI:=HI.out ks[j] _ m B (wr.alloc (.cells #[.int .i64 a0,.int .u64 a1,.int .u64 a2,.int .u64 a3,.int .u64 a4,.slice A5 l5 cap5] 125)) (HR.out.alloc hbz _) (by simp;omega) (by omega);obtain⟨M,hM⟩:∃ M,M=Kt1 m ks[j]:=⟨_,rfl⟩;rw [<-hM] at CI hm2;have CI:=qh CI;have HM2:=qh hm2;clear hm hb hle htk h80 hm2 hM hel hc hr;go_wp2_with fail;refine CI.out.mono ?_;rintro e w2 ⟨rfl,hb2⟩;have HB2:=qh ((HB.out.alloc HB.out.size _).trans (hb2.mono (by have:=HB.out.size;simp;omega)));clear hb2;go_wp2_with fail;go_roundw
      case rel=>exact⟨j+1,M,by go_num,rfl,by omega,HM2.out,HB2.out⟩
      case measure=>simp [intOf];omega
  . obtain rfl:j=ks.length:=(by omega);have HR81:Hid (R=m):=qh (by rw [HS.out,hm,List.take_length]);clear hm hb hle hel;go_wp2_with fail;go_ret;exact⟨by rw [HR81.out];rfl,HB.out⟩
theorem qT8:∀ d,SzOk 194 d
 |0=>λ r cs n B w h=>h.elim
 |d+1=>jc2 d (qT8 d)
end Go.Proofs.YtngepacmgabmaaaGreatDoor
