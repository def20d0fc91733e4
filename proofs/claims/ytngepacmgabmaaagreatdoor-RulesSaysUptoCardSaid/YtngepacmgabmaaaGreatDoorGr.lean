/- Walk: (*rex.reader).class. (printed by gen_prsf.py) -/
import Derived.Test.YtngepacmgabmaaaGreatDoorGq
namespace Go.Proofs.YtngepacmgabmaaaGreatDoor
open Go.RowKit
set_option linter.unusedVariables false
set_option linter.unusedSimpArgs false
theorem notA (q:Q4) (hq:q.ok) (w:World):
 Calls Tryz.prog 214 #[.agg #[.int .u64 (q.a:Int),.int .u64 (q.b:Int),.int .u64 (q.c:Int),.int .u64 (q.d:Int)]] w λ e w'=>∃ p:Q4,e= .returned (.agg #[.int .u64 (p.a:Int),.int .u64 (p.b:Int),.int .u64 (p.c:Int),.int .u64 (p.d:Int)])/\p=q.not/\Below w.heap.size w w':=
 (xm4 q hq w).mono λ e w' h=>⟨q.not,h.1,rfl,h.2⟩
theorem xx2 {q:Q4} {f:Nat->Bool} (h:SetOf q f):SetOf q.not (λ b=> !f b):=⟨Q4.not_ok q,λ b hb=>by rw [xG6 h.1 hb,h.2 b hb]⟩
structure Cx (w:World) (g gS:Nat) (s:ByteArray) (x:Sx) (op:Int) (q:Q4) (wr:World):Prop where
 rd:Rd wr g s x op
 re:Blk wr w.heap.size 125 #[.int .i64 0,.int .u64 0,.int .u64 0,.int .u64 0,.int .u64 0,.slice none 0 0]
 se:SBlk wr gS q
 ko:KeptOff w wr g
 lt:g<w.heap.size
 gl:w.heap.size<gS
section
variable {w wr wr':World} {g gS:Nat} {s:ByteArray} {x x':Sx} {op:Int} {q:Q4}
theorem Cx.step (h:Cx w g gS s x op q wr) (hb:Below wr.heap.size wr wr'):Cx w g gS s x op q wr':=⟨h.rd.below hb,Blk.below h.re hb (Blk.lt h.re),Blk.below h.se hb (Blk.lt h.se),h.ko.tr (KeptOff.of_below hb),h.lt,h.gl⟩
theorem Cx.kept (h:Cx w g gS s x op q wr) (hr:Rd wr' g s x' op) (hk:KeptOff wr wr' g):Cx w g gS s x' op q wr':=⟨hr,hk.blk h.re (by have:=h.lt;omega),hk.blk h.se (by have:=h.lt;have:=h.gl;omega),h.ko.tr hk,h.lt,h.gl⟩
theorem Cx.put (h:Cx w g gS s x op q wr) (r:Q4):Cx w g gS s x op r (((((wr).setCell ⟨gS,0,none⟩ (.int .u64 (r.a:Int))).setCell ⟨gS,1,none⟩ (.int .u64 (r.b:Int))).setCell ⟨gS,2,none⟩ (.int .u64 (r.c:Int))).setCell ⟨gS,3,none⟩ (.int .u64 (r.d:Int))):=⟨Blk.far4 h.rd (by have:=h.lt;have:=h.gl;omega) r,Blk.far4 h.re (by have:=h.gl;omega) r,X26 h.se r,h.ko.put4 (by have:=h.gl;omega) r,h.lt,h.gl⟩
theorem Cx.at_ (h:Cx w g gS s x op q wr) (p:Nat):Cx w g gS s ⟨p,x.e⟩ op q (wr.setCell ⟨g,1,none⟩ (.int .i64 (p:Int))):=by
 have h1:=h.lt;have h2:=h.gl;exact⟨h.rd.setP p,Blk.far h.re (by dsimp only;omega) _,Blk.far h.se (by dsimp only;omega) _,h.ko.set_ 1 _,h.lt,h.gl⟩
end
theorem SBlk.lit (w:World) (q:Q4):SBlk (w.alloc (.cells #[.int .u64 (q.a:Int),.int .u64 (q.b:Int),.int .u64 (q.c:Int),.int .u64 (q.d:Int)] 122)) w.heap.size q:=Blk.new _ _ _
theorem Xm2 {s:ByteArray} {one:Bool} {f:Nat->Bool} {x:Sx} (m:Nat) (h:¬(x.e=0/\(one=true\/¬nx s x=93))):clL s m one f x=(f,x):=by
 cases m with
 |zero=>rfl
 |succ m=>rw [clL,if_neg h]
theorem ZE7 {s:ByteArray} {one:Bool} {f g:Nat->Bool} {x:Sx} {m:Nat} (h:x.e=0/\(one=true\/¬nx s x=93)) (hg:gr s x=some g):clL s (m+1) one f x=clL s m false (λ b=>f b||g b) x.up.up:=by rw [clL,if_pos h,hg]
theorem Kg8 {s:ByteArray} {one:Bool} {f:Nat->Bool} {x:Sx} {m:Nat} (h:x.e=0/\(one=true\/¬nx s x=93)) (hg:gr s x=none) (h2:¬nx s (ch s x).2=45):clL s (m+1) one f x=clL s m false (λ b=>f b||J03 (ch s x).1 (ch s x).1 b) (ch s x).2:=by rw [clL,if_pos h,hg];dsimp only;rw [if_neg h2]
theorem zH4 {s:ByteArray} {one:Bool} {f:Nat->Bool} {x:Sx} {m:Nat} (h:x.e=0/\(one=true\/¬nx s x=93)) (hg:gr s x=none) (h2:nx s (ch s x).2=45):clL s (m+1) one f x=clL s m false (λ b=>f b||J03 (ch s x).1 (ch s (ch s x).2.up).1 b) (if (ch s (ch s x).2.up).1<(ch s x).1/\(ch s (ch s x).2.up).2.e=0 then ⟨(ch s x).2.p+1,3⟩ else (ch s (ch s x).2.up).2):=by rw [clL,if_pos h,hg];dsimp only;rw [if_pos h2]
def ClRes (s:ByteArray) (x:Sx) (op:Int) (g:Nat) (w:World) (e:Ending) (w':World):Prop:=∃ q:Q4,e= .returned (.agg #[.int .i64 3,.int .u64 (q.a:Int),.int .u64 (q.b:Int),.int .u64 (q.c:Int),.int .u64 (q.d:Int),.slice none 0 0])/\q=(cls s x).1/\q.ok/\Rd w' g s (cls s x).2 op/\KeptOff w w' g
set_option maxRecDepth 100000 in
set_option maxHeartbeats 16000000 in
theorem Xk8 (s:ByteArray) (hs:s.size<=200) (x0:Sx) (op:Int) (g:Nat) (w:World) (he:x0.e=0) (hp:x0.p<=s.size) (hR:Rd w g s x0 op):
 Calls Tryz.prog 216 #[.pointer (some ⟨g,0,none⟩)] w (ClRes s x0 op g w):=by
 obtain⟨W,hW⟩:∃ W,w.alloc (.cells #[.int .i64 0,.int .u64 0,.int .u64 0,.int .u64 0,.int .u64 0,.slice none 0 0] 125)=W:=⟨_,rfl⟩;have hWR:Rd W g s x0 op:=by rw [<-hW];exact Blk.alloc hR _
 have hWE:Blk W w.heap.size 125 #[.int .i64 0,.int .u64 0,.int .u64 0,.int .u64 0,.int .u64 0,.slice none 0 0]:=by rw [<-hW];exact Blk.new w _ _
 have hWK:KeptOff w W g:=by rw [<-hW];exact KeptOff.refl.alloc _
 have hglt:g<w.heap.size:=Blk.lt hR;have hWz:W.heap.size=w.heap.size+1:=by rw [<-hW];simp
 have CT0:=qh (k06 s hs x0 op g W 94 hp hWR);have HE:=qh hWE;have HK:=qh hWK;obtain⟨x1,hx1⟩:∃ x1,x1=tkX s x0 94:=⟨_,rfl⟩;have hx1':x1=if nx s x0=94 then x0.up else x0:=hx1
 have hx1e:x1.e=0:=by rw [hx1'];split<;>exact he
 have hx1p:x1.p<=s.size:=by
  rw [hx1'];split
  . exact(kx8 (s:=s) (by omega)).hi
  . exact hp
 rw [<-hx1] at CT0;obtain⟨iv,hiv⟩:∃ iv,iv=(nx s x0==94):=⟨_,rfl⟩;rw [<-hiv] at CT0;obtain⟨F,hF⟩:∃ F,F=clL s (s.size+1) true (λ _=>false) x1:=⟨_,rfl⟩
 have hcls:cls s x0=(mkQ (if iv=true then λ b=> !F.1 b else F.1),tkX s (if (mkQ (if iv=true then λ b=> !F.1 b else F.1)).zero=true then F.2.fl 3 else F.2) 93):=by
  unfold cls;rw [<-hx1',<-hF]
  have e:(if nx s x0=94 then λ b=> !F.1 b else F.1)=(if iv=true then λ b=> !F.1 b else F.1):=by
   rw [hiv];by_cases h:nx s x0=94
   . rw [if_pos h,if_pos (beq_iff_eq.2 h)]
   . rw [if_neg h,if_neg (by rw [beq_iff_eq];exact h)]
  dsimp only;rw [e];rfl
 have HC:=qh hcls;have HF:=qh hF;clear hWR hWE hWK hR hx1 hx1' hiv hF hcls he hp;go_enter Tryz.func216,Tryz.ntmps216;go_wp2_with fail;refine CT0.out.mono ?_;rintro e w1 ⟨rfl,hr1,hk1⟩;have hz1:w.heap.size+1<=w1.heap.size:=by have:=hk1.size;omega
 have hCx:Cx w g w1.heap.size s x1 op ⟨0,0,0,0⟩ (w1.alloc (.cells #[.int .u64 0,.int .u64 0,.int .u64 0,.int .u64 0] 122)):=⟨Blk.alloc hr1 _,Blk.alloc (hk1.blk HE.out (by omega)) _,SBlk.new w1,(HK.out.tr hk1).alloc _,hglt,by omega⟩;have HCx:=qh hCx;clear hCx hr1 hk1 hW hWz;go_upto_block 0 with fail;obtain⟨gS,hgS⟩:∃ gS,w1.heap.size=gS:=⟨_,rfl⟩;rw [hgS] at HCx⊢;obtain⟨W1,hW1⟩:∃ W1,w1.alloc (.cells #[.int .u64 0,.int .u64 0,.int .u64 0,.int .u64 0] 122)=W1:=⟨_,rfl⟩;rw [hW1] at HCx⊢;clear hW1 hgS hz1;go_cut [5,6,7,8,9,10] from 13 to 69 (λ _ _ _ _ _ _ wx=>∃ q,F.2.p<=s.size/\Hid (SetOf q F.1)/\Hid (Cx w g gS s F.2 op q wx))
 case first=>
  go_wp2_with fail;go_loopw [5] (λ n wr=>∃ (m nn:Nat) (f:Nat->Bool) (x:Sx) (q:Q4),n= .int .i64 nn/\nn+m=s.size+1/\(x.e=0->nn<=x.p)/\x.p<=s.size/\Hid (F=clL s m (nn==0) f x)/\Hid (SetOf q f)/\Hid (Cx w g gS s x op q wr)) (λ n _=>s.size+1-(intOf n).toNat)
  case atStart=>exact⟨s.size+1,0,λ _=>false,x1,_,rfl,by omega,λ _=>by omega,hx1p,HF,⟨⟨by decide,by decide,by decide,by decide⟩,λ b _=>jR3 b⟩,HCx⟩
  case round=>
   obtain⟨m,nn,f,x,q,rfl,hm,hnp,hxp,HFx,HQ,HX⟩:=hrel;obtain⟨c0,c1,c2,c3⟩:=HX.out.rd.facts;have CN:=qh (xq2 s x op g wr hxp HX.out.rd);clear HCx HF hx1e;by_cases hxe:x.e=0
   . rw [hxe] at c3;have hnn:=hnp hxe;obtain⟨m,rfl⟩:∃ m',m=m'+1:=⟨m-1,by omega⟩;by_cases hgo:nn=0\/¬nx s x=93
     . have hcond:x.e=0/\((nn==0)=true\/¬nx s x=93):=⟨hxe,by rcases hgo with h|h;exact .inl (by rw [h];rfl);exact .inr h⟩;have CG:=qh λ w' hr=>ku6 s hs x op g w' hxe hxp hr
       have hwn:IntKind.i64.wrap ((nn:Int)+1)=(nn:Int)+1:=IntWalk.i64_in _ (by omega);by_cases h0:nn=0
       focus
        have fn:((nn:Int)==0)=true:=(by rw [beq_iff_eq];omega);have HY:=HX;clear h0 hgo
       rotate_left
       focus
        have h93:¬nx s x=93:=(by rcases hgo with h|h;exact absurd h h0;exact h);have fn:((nn:Int)==0)=false:=(by rw [beq_eq_false_iff_ne];omega);have f93:(nx s x !=93)=true:=(by rw [bne_iff_ne];exact h93);go_wp2_with fail;refine CN.out.mono ?_;rintro e w2 ⟨rfl,qq,hq2⟩;have HY:Hid (Cx w g gS s x op q w2):=qh (by rw [hq2];exact HX.out.step (below_drewN (Below.refl _ _) qq));clear hq2
       all_goals
        go_wp2_with fail;refine(CG.out _ HY.out.rd).mono ?_;rintro e w3 ⟨q3,ok,rfl,hok,hset,hq3,hr3,hk3⟩;have hb0:((nn+1:Nat)==0)=false:=rfl;have HY3:=qh (HY.out.kept hr3 hk3);have hgs3:gS<w3.heap.size:=Blk.lt HY3.out.se;have HY6':=qh (HY3.out.step ((Below.refl _ _).alloc (Nat.le_refl _) (.cells #[.int .u64 (q3.a:Int),.int .u64 (q3.b:Int),.int .u64 (q3.c:Int),.int .u64 (q3.d:Int)] 122)));have hk6:=SBlk.lit w3 q3;clear hr3 hk3 c0 c1 c2 c3 HY3;cases ok with
        |true=>
         obtain⟨gf,hgf⟩:∃ gf,gr s x=some gf:=Option.isSome_iff_exists.1 hok.symm;have hgs:=hset gf hgf;have HF2:Hid (F=clL s m ((nn+1:Nat)==0) (λ b=>f b||gf b) x.up.up):=qh (by rw [hb0];exact HFx.out.trans (ZE7 hcond hgf));have hG:=yP3 hgf;have HGS:=qh hgs;clear hok hset hgf hgs;go_upto_region 8 with fail;obtain⟨W6,hW6⟩:∃ W6,w3.alloc (.cells #[.int .u64 (q3.a:Int),.int .u64 (q3.b:Int),.int .u64 (q3.c:Int),.int .u64 (q3.d:Int)] 122)=W6:=⟨_,rfl⟩;rw [hW6] at HY6' hk6⊢;obtain⟨g6,hg6⟩:∃ g6,w3.heap.size=g6:=⟨_,rfl⟩;rw [hg6] at hk6⊢;have HY6:Hid (Cx w g gS s x.up.up op q W6):=HY6';obtain⟨s0,s1,s2,s3⟩:=Blk.c4 HY6.out.se;obtain⟨fs0,fs1,fs2,fs3⟩:=Blk.f4 HY6.out.se;obtain⟨t0,t1,t2,t3⟩:=Blk.c4 hk6;clear hW6 hg6 hk6;go_wp2_with fail;refine(xY0 q q3 HQ.out.1 hq3 _).mono ?_;rintro e w7 ⟨q7,rfl,hq7,hb7⟩;have HY7:=qh (HY6.out.step hb7);have HQ7:=qh (YI8 HQ.out HGS.out);rw [<-hq7] at HQ7;clear t0 t1 t2 t3 s0 fs0 s1 fs1 s2 fs2 s3 fs3;obtain⟨s0,s1,s2,s3⟩:=Blk.c4 HY7.out.se;obtain⟨fs0,fs1,fs2,fs3⟩:=Blk.f4 HY7.out.se;have HY8:=qh (HY7.out.put q7);clear hb7 hq7;go_wp2_with fail;go_roundw
         case rel=>exact⟨m,nn+1,_,x.up.up,q7,by go_num,by omega,λ k=>by have:=hG.ok k;omega,hG.hi,HF2,HQ7,HY8⟩
         case measure=>(simp [intOf];try omega)
        |false=>
         have HGN:Hid (gr s x=none):=qh (Option.not_isSome_iff_eq_none.1 (by rw [<-hok];decide));clear hok hset;go_upto_region 9 with fail;obtain⟨W6,hW6⟩:∃ W6,w3.alloc (.cells #[.int .u64 (q3.a:Int),.int .u64 (q3.b:Int),.int .u64 (q3.c:Int),.int .u64 (q3.d:Int)] 122)=W6:=⟨_,rfl⟩;rw [hW6] at HY6'⊢;have HY6:Hid (Cx w g gS s x op q W6):=HY6';clear hW6 hk6;obtain⟨lo,hlo⟩:∃ lo:Nat,(ch s x).1=(lo:Int):=⟨(ch s x).1.toNat,by have:=Ym2 s x;omega⟩;have hlo2:lo<=255:=(by have:=Ym2 s x;omega);obtain⟨y,hy⟩:∃ y,y=(ch s x).2:=⟨_,rfl⟩;have hgy:=Q44 s x hxp;rw [<-hy] at hgy
         have CH:Hid (∀ w',Rd w' g s x op->Calls Tryz.prog 218 #[.pointer (some ⟨g,0,none⟩)] w' λ e w''=>e= .returned (.int .i64 (lo:Int))/\Rd w'' g s y op/\KeptOff w' w'' g):=qh λ w' hr=>by
          have:=Yk1 s hs x op g w' hxp hr;rw [hlo,<-hy] at this;exact this
         have CT:=qh λ w' hr=>k06 s hs y op g w' 45 hgy.hi hr
         go_wp2_with fail;refine(CH.out _ HY6.out.rd).mono ?_;rintro e w7 ⟨rfl,hr7,hk7⟩;have HY7:=qh (HY6.out.kept hr7 hk7);clear hr7 hk7;by_cases h45:nx s y=45
         . have HF1:Hid (F=clL s m false (λ b=>f b||J03 (lo:Int) (ch s y.up).1 b) (if (ch s y.up).1<(lo:Int)/\(ch s y.up).2.e=0 then ⟨y.p+1,3⟩ else (ch s y.up).2)):=qh (HFx.out.trans ((zH4 hcond HGN.out (by rw [<-hy];exact h45)).trans (by rw [hlo,<-hy])));have htk:tkX s y 45=y.up:=if_pos h45;have hnb:(nx s y==45)=true:=beq_iff_eq.2 h45;have hgu:=hgy.tr (kx8 (s:=s) (x:=y) (by omega))
           have CT:Hid (∀ w',Rd w' g s y op->Calls Tryz.prog 158 #[.pointer (some ⟨g,0,none⟩),.int .i64 45] w' λ e w''=>e= .returned (.bool true)/\Rd w'' g s y.up op/\KeptOff w' w'' g):=qh λ w' hr=>by
            have:=CT.out w' hr;rw [htk,hnb] at this;exact this
           clear htk hnb h45 hlo hy;obtain⟨hi,hhi⟩:∃ hi:Nat,(ch s y.up).1=(hi:Int):=⟨(ch s y.up).1.toNat,by have:=Ym2 s y.up;omega⟩;have hhi2:hi<=255:=(by have:=Ym2 s y.up;omega);obtain⟨z,hz⟩:∃ z,z=(ch s y.up).2:=⟨_,rfl⟩;have hgz:=hgu.tr (Q44 s y.up hgu.hi);rw [<-hz] at hgz;rw [hhi,<-hz] at HF1
           have CH2:Hid (∀ w',Rd w' g s y.up op->Calls Tryz.prog 218 #[.pointer (some ⟨g,0,none⟩)] w' λ e w''=>e= .returned (.int .i64 (hi:Int))/\Rd w'' g s z op/\KeptOff w' w'' g):=qh λ w' hr=>by
            have:=Yk1 s hs y.up op g w' hgu.hi hr;rw [hhi,<-hz] at this;exact this
           clear hhi hz;go_wp2_with fail;refine(CT.out _ HY7.out.rd).mono ?_;rintro e w8 ⟨rfl,hr8,hk8⟩;have HY8:=qh (HY7.out.kept hr8 hk8);have c1:w8.cell? ⟨g,1,none⟩=some (.int .i64 ((y.p+1:Nat):Int)):=HY8.out.rd.facts.2.1;clear hr8 hk8;go_wp2_with fail;refine(CH2.out _ HY8.out.rd).mono ?_;rintro e w9 ⟨rfl,hr9,hk9⟩;have HY9:=qh (HY8.out.kept hr9 hk9);obtain⟨c0,c1,c2,c3⟩:=HY9.out.rd.facts;clear hr9 hk9;by_cases hbad:(hi:Int)<(lo:Int)/\z.e=0
           . have HF2:Hid (F=clL s m ((nn+1:Nat)==0) (λ b=>f b||J03 (lo:Int) (hi:Int) b) ⟨y.p+1,3⟩):=qh (by rw [hb0,HF1.out,if_pos hbad]);have d1:decide ((hi:Int)<(lo:Int))=true:=decide_eq_true hbad.1;have d1n:decide (hi<lo)=true:=decide_eq_true (by omega);rw [hbad.2] at c3;have cf:=Blk.frozen HY9.out.rd 1;have HYa:Hid (Cx w g gS s ⟨y.p+1,z.e⟩ op q (w9.setCell ⟨g,1,none⟩ (.int .i64 ((y.p+1:Nat):Int)))):=qh (HY9.out.at_ (y.p+1));have hfl:(⟨y.p+1,z.e⟩:Sx).fl 3=⟨y.p+1,3⟩:=if_pos hbad.2;have CF:=qh λ w' hr=>z88 s ⟨y.p+1,z.e⟩ op g w' 3 hr
             rw [hfl] at CF;have hGo:Go1 s x ⟨y.p+1,3⟩:=⟨hgu.hi,hgu.lo,λ k=>absurd k (by show ¬(3:Int)=0;decide)⟩;clear hbad hfl;go_wp2_with fail;refine(CF.out _ HYa.out.rd).mono ?_;rintro e w10 ⟨rfl,hr10,hk10⟩;have HYb:=qh (HYa.out.kept hr10 hk10);clear hr10 hk10 c0 c1 c2 c3 cf;have hxd:=HYb.out.step (below_drewN (Below.refl _ _) 1:Below w10.heap.size w10 w10.drew);have CR:=qh λ w'=>ZL2 lo hi (by omega) w'
             have s0:w10.drew.cell? ⟨gS,0,none⟩=some (.int .u64 (q.a:Int)):=hxd.se.cell (k:=0) (by omega);have fs0:w10.drew.frozen? ⟨gS,0,none⟩=false:=Blk.frozen hxd.se 0;have s1:w10.drew.cell? ⟨gS,1,none⟩=some (.int .u64 (q.b:Int)):=hxd.se.cell (k:=1) (by omega);have fs1:w10.drew.frozen? ⟨gS,1,none⟩=false:=Blk.frozen hxd.se 1;have s2:w10.drew.cell? ⟨gS,2,none⟩=some (.int .u64 (q.c:Int)):=hxd.se.cell (k:=2) (by omega);have fs2:w10.drew.frozen? ⟨gS,2,none⟩=false:=Blk.frozen hxd.se 2;have s3:w10.drew.cell? ⟨gS,3,none⟩=some (.int .u64 (q.d:Int)):=hxd.se.cell (k:=3) (by omega);have fs3:w10.drew.frozen? ⟨gS,3,none⟩=false:=Blk.frozen hxd.se 3;go_wp2_with fail
             go_region_law (first
              |(go_simp;go_at_call 143;(refine(CR.out _).mono ?_);rintro e w21 ⟨q21,rfl,hq21,hb21⟩;have hx21:=hxd.step hb21;have u0:=hx21.se.cell (k:=0) (by omega);have u1:=hx21.se.cell (k:=1) (by omega);have u2:=hx21.se.cell (k:=2) (by omega);have u3:=hx21.se.cell (k:=3) (by omega))
              |(go_simp;go_at_call 228;(refine(xY0 q q21 HQ.out.1 hq21.1 _).mono ?_);rintro e w22 ⟨q22,rfl,hq22,hb22⟩;replace hq22:=qh hq22;have hx22:=hx21.step hb22;have v0:=hx22.se.cell (k:=0) (by omega);have fv0:=Blk.frozen hx22.se 0;have v1:=hx22.se.cell (k:=1) (by omega);have fv1:=Blk.frozen hx22.se 1;have v2:=hx22.se.cell (k:=2) (by omega);have fv2:=Blk.frozen hx22.se 2;have v3:=hx22.se.cell (k:=3) (by omega);have fv3:=Blk.frozen hx22.se 3))
             all_goals
              have HX9:=qh (hx22.put q22);have HQ9:=qh (YI8 HQ.out hq21);rw [<-hq22.out] at HQ9;go_wp2_with fail;go_roundw
              case rel=>exact⟨m,nn+1,_,⟨y.p+1,3⟩,q22,by go_num,by omega,λ k=>by have:=hGo.ok k;omega,hGo.hi,HF2,HQ9,HX9⟩
              case measure=>(simp [intOf];try omega)
           . have HF2:Hid (F=clL s m ((nn+1:Nat)==0) (λ b=>f b||J03 (lo:Int) (hi:Int) b) z):=qh (by rw [hb0,HF1.out,if_neg hbad]);by_cases hlt:(hi:Int)<(lo:Int)
             focus
              have d1:decide ((hi:Int)<(lo:Int))=true:=decide_eq_true hlt;have d1n:decide (hi<lo)=true:=decide_eq_true (by omega);have hze:¬z.e=0:=λ k=>hbad ⟨hlt,k⟩
              have fz:(z.e==0)=false:=(by rw [beq_eq_false_iff_ne];exact hze);clear hbad hze hlt;clear c0 c1 c2
             rotate_left
             focus
              have d1:decide ((hi:Int)<(lo:Int))=false:=decide_eq_false hlt;have d1n:decide (hi<lo)=false:=decide_eq_false (by omega);clear hbad hlt c0 c1 c2 c3
             all_goals
              have hxd:=HY9.out.step (below_drewN (Below.refl _ _) 1:Below w9.heap.size w9 w9.drew);have CR:=qh λ w'=>ZL2 lo hi (by omega) w'
              have s0:w9.drew.cell? ⟨gS,0,none⟩=some (.int .u64 (q.a:Int)):=hxd.se.cell (k:=0) (by omega);have fs0:w9.drew.frozen? ⟨gS,0,none⟩=false:=Blk.frozen hxd.se 0;have s1:w9.drew.cell? ⟨gS,1,none⟩=some (.int .u64 (q.b:Int)):=hxd.se.cell (k:=1) (by omega);have fs1:w9.drew.frozen? ⟨gS,1,none⟩=false:=Blk.frozen hxd.se 1;have s2:w9.drew.cell? ⟨gS,2,none⟩=some (.int .u64 (q.c:Int)):=hxd.se.cell (k:=2) (by omega);have fs2:w9.drew.frozen? ⟨gS,2,none⟩=false:=Blk.frozen hxd.se 2;have s3:w9.drew.cell? ⟨gS,3,none⟩=some (.int .u64 (q.d:Int)):=hxd.se.cell (k:=3) (by omega);have fs3:w9.drew.frozen? ⟨gS,3,none⟩=false:=Blk.frozen hxd.se 3;go_wp2_with fail
              go_region_law (first
               |(go_simp;go_at_call 143;(refine(CR.out _).mono ?_);rintro e w21 ⟨q21,rfl,hq21,hb21⟩;have hx21:=hxd.step hb21;have u0:=hx21.se.cell (k:=0) (by omega);have u1:=hx21.se.cell (k:=1) (by omega);have u2:=hx21.se.cell (k:=2) (by omega);have u3:=hx21.se.cell (k:=3) (by omega))
               |(go_simp;go_at_call 228;(refine(xY0 q q21 HQ.out.1 hq21.1 _).mono ?_);rintro e w22 ⟨q22,rfl,hq22,hb22⟩;replace hq22:=qh hq22;have hx22:=hx21.step hb22;have v0:=hx22.se.cell (k:=0) (by omega);have fv0:=Blk.frozen hx22.se 0;have v1:=hx22.se.cell (k:=1) (by omega);have fv1:=Blk.frozen hx22.se 1;have v2:=hx22.se.cell (k:=2) (by omega);have fv2:=Blk.frozen hx22.se 2;have v3:=hx22.se.cell (k:=3) (by omega);have fv3:=Blk.frozen hx22.se 3))
              all_goals
               have HX9:=qh (hx22.put q22);have HQ9:=qh (YI8 HQ.out hq21);rw [<-hq22.out] at HQ9;go_wp2_with fail;go_roundw
               case rel=>exact⟨m,nn+1,_,z,q22,by go_num,by omega,λ k=>by have:=hgz.ok k;omega,hgz.hi,HF2,HQ9,HX9⟩
               case measure=>(simp [intOf];try omega)
         . have HF2:Hid (F=clL s m ((nn+1:Nat)==0) (λ b=>f b||J03 (lo:Int) (lo:Int) b) y):=qh (by rw [hb0];exact HFx.out.trans ((Kg8 hcond HGN.out (by rw [<-hy];exact h45)).trans (by rw [hlo,<-hy])));have htk:tkX s y 45=y:=if_neg h45;have hnb:(nx s y==45)=false:=beq_eq_false_iff_ne.2 h45
           have CT:Hid (∀ w',Rd w' g s y op->Calls Tryz.prog 158 #[.pointer (some ⟨g,0,none⟩),.int .i64 45] w' λ e w''=>e= .returned (.bool false)/\Rd w'' g s y op/\KeptOff w' w'' g):=qh λ w' hr=>by
            have:=CT.out w' hr;rw [htk,hnb] at this;exact this
           clear htk hnb h45 hlo hy;go_wp2_with fail;refine(CT.out _ HY7.out.rd).mono ?_;rintro e w8 ⟨rfl,hr8,hk8⟩;have HY8:=qh (HY7.out.kept hr8 hk8);clear hr8 hk8;have hxd:=HY8.out.step (below_drewN (Below.refl _ _) 1:Below w8.heap.size w8 w8.drew);have CR:=qh λ w'=>ZL2 lo lo (by omega) w'
           have s0:w8.drew.cell? ⟨gS,0,none⟩=some (.int .u64 (q.a:Int)):=hxd.se.cell (k:=0) (by omega);have fs0:w8.drew.frozen? ⟨gS,0,none⟩=false:=Blk.frozen hxd.se 0;have s1:w8.drew.cell? ⟨gS,1,none⟩=some (.int .u64 (q.b:Int)):=hxd.se.cell (k:=1) (by omega);have fs1:w8.drew.frozen? ⟨gS,1,none⟩=false:=Blk.frozen hxd.se 1;have s2:w8.drew.cell? ⟨gS,2,none⟩=some (.int .u64 (q.c:Int)):=hxd.se.cell (k:=2) (by omega);have fs2:w8.drew.frozen? ⟨gS,2,none⟩=false:=Blk.frozen hxd.se 2;have s3:w8.drew.cell? ⟨gS,3,none⟩=some (.int .u64 (q.d:Int)):=hxd.se.cell (k:=3) (by omega);have fs3:w8.drew.frozen? ⟨gS,3,none⟩=false:=Blk.frozen hxd.se 3;go_wp2_with fail
           go_region_law (first
            |(go_simp;go_at_call 143;(refine(CR.out _).mono ?_);rintro e w21 ⟨q21,rfl,hq21,hb21⟩;have hx21:=hxd.step hb21;have u0:=hx21.se.cell (k:=0) (by omega);have u1:=hx21.se.cell (k:=1) (by omega);have u2:=hx21.se.cell (k:=2) (by omega);have u3:=hx21.se.cell (k:=3) (by omega))
            |(go_simp;go_at_call 228;(refine(xY0 q q21 HQ.out.1 hq21.1 _).mono ?_);rintro e w22 ⟨q22,rfl,hq22,hb22⟩;replace hq22:=qh hq22;have hx22:=hx21.step hb22;have v0:=hx22.se.cell (k:=0) (by omega);have fv0:=Blk.frozen hx22.se 0;have v1:=hx22.se.cell (k:=1) (by omega);have fv1:=Blk.frozen hx22.se 1;have v2:=hx22.se.cell (k:=2) (by omega);have fv2:=Blk.frozen hx22.se 2;have v3:=hx22.se.cell (k:=3) (by omega);have fv3:=Blk.frozen hx22.se 3))
           all_goals
            have HX9:=qh (hx22.put q22);have HQ9:=qh (YI8 HQ.out hq21);rw [<-hq22.out] at HQ9;go_wp2_with fail;go_roundw
            case rel=>exact⟨m,nn+1,_,y,q22,by go_num,by omega,λ k=>by have:=hgy.ok k;omega,hgy.hi,HF2,HQ9,HX9⟩
            case measure=>(simp [intOf];try omega)
     . have hgo2:¬nn=0/\nx s x=93:=⟨λ h=>hgo (.inl h),Decidable.not_not.1 λ h=>hgo (.inr h)⟩;have fn:((nn:Int)==0)=false:=by rw [beq_eq_false_iff_ne];omega
       have HE1:Hid (F=(f,x)):=qh (HFx.out.trans (Xm2 _ λ k=>by
        rcases k.2 with h|h
        . rw [beq_iff_eq] at h;exact hgo2.1 h
        . exact h hgo2.2))
       rw [hgo2.2] at CN;have HQ1:Hid (SetOf q F.1):=qh (by rw [HE1.out];exact HQ.out);have HX1:Hid (Cx w g gS s F.2 op q wr):=qh (by rw [HE1.out];exact HX.out);have hFp:F.2.p<=s.size:=(by rw [HE1.out];exact hxp);clear hgo hgo2 HE1 hnp;go_wp2_with fail;refine CN.out.mono ?_;rintro e w2 ⟨rfl,qq,rfl⟩;go_wp2_with fail;go_meet;exact⟨q,hFp,HQ1,HX1.out.step (below_drewN (Below.refl _ _) qq)⟩
   . have f3:(x.e==0)=false:=(by rw [beq_eq_false_iff_ne];exact hxe);have HE1:Hid (F=(f,x)):=qh (HFx.out.trans (Xm2 _ λ k=>hxe k.1));have HQ1:Hid (SetOf q F.1):=qh (by rw [HE1.out];exact HQ.out);have HX1:Hid (Cx w g gS s F.2 op q wr):=qh (by rw [HE1.out];exact HX.out);have hFp:F.2.p<=s.size:=(by rw [HE1.out];exact hxp);clear hxe HE1 hnp;go_wp2_with fail;go_meet;exact⟨q,hFp,HQ1,HX1⟩
 case rest=>
  obtain⟨q,hFp,HQ,HX⟩:=hcut;clear HCx;cases iv
  focus
   have hqm:q=mkQ F.1:=ZB8 HQ.out λ _ _=>rfl
   have HC2:Hid (cls s x0=(q,tkX s (if q.zero=true then F.2.fl 3 else F.2) 93)):=qh (by rw [HC.out,if_neg (by decide),<-hqm]);have hqo:=HQ.out.1;clear hqm HQ
  rotate_left
  focus
   have CNo:=qh λ w'=>notA q HQ.out.1 w'
   obtain⟨s0,s1,s2,s3⟩:=Blk.c4 HX.out.se;obtain⟨fs0,fs1,fs2,fs3⟩:=Blk.f4 HX.out.se;go_wp2_with fail;refine(CNo.out _).mono ?_;rintro e w5 ⟨p,rfl,hp,hb5⟩;have HX5:=qh (HX.out.step hb5);have HQ5:=qh (xx2 HQ.out);rw [<-hp] at HQ5;clear hb5 hp s0 s1 s2 s3 fs0 fs1 fs2 fs3;obtain⟨s0,s1,s2,s3⟩:=Blk.c4 HX5.out.se;obtain⟨fs0,fs1,fs2,fs3⟩:=Blk.f4 HX5.out.se;have HX6:=qh (HX5.out.put p);go_upto_region 20 with fail;obtain⟨wd,hwd⟩:∃ wd,(((((w5).setCell ⟨gS,0,none⟩ (.int .u64 (p.a:Int))).setCell ⟨gS,1,none⟩ (.int .u64 (p.b:Int))).setCell ⟨gS,2,none⟩ (.int .u64 (p.c:Int))).setCell ⟨gS,3,none⟩ (.int .u64 (p.d:Int)))=wd:=⟨_,rfl⟩;rw [hwd] at HX6⊢;clear hwd s0 s1 s2 s3 fs0 fs1 fs2 fs3 HX5 HX;obtain⟨q,rfl⟩:∃ q,q=p:=⟨_,rfl⟩;have HX:=HX6;have hqm:q=mkQ λ b=> !F.1 b:=ZB8 HQ5.out λ _ _=>rfl
   have HC2:Hid (cls s x0=(q,tkX s (if q.zero=true then F.2.fl 3 else F.2) 93)):=qh (by rw [HC.out,hqm];simp);have hqo:=HQ5.out.1;clear hqm HQ HQ5
  all_goals
   obtain⟨s0,s1,s2,s3⟩:=Blk.c4 HX.out.se;cases hz:q.zero
   focus
    have HC3:Hid (cls s x0=(q,tkX s F.2 93)):=qh (by rw [HC2.out,if_neg (by rw [hz];decide)]);have hXp:F.2.p<=s.size:=hFp;have hzi:((q.a:Int)==0&&((q.b:Int)==0&&((q.c:Int)==0&&(q.d:Int)==0)))=false:=(by rw [qc4];exact hz);clear HC2 hz;go_wp2_with fail;refine(k06 s hs F.2 op g _ 93 hXp HX.out.rd).mono ?_;rintro e w8 ⟨rfl,hr8,hk8⟩;have HX8:=qh (HX.out.kept hr8 hk8);clear hr8 hk8 s0 s1 s2 s3;obtain⟨s0,s1,s2,s3⟩:=Blk.c4 HX8.out.se;obtain⟨r0,r1,r2,r3,r4,r5⟩:=Blk.c6 HX8.out.re;obtain⟨fr0,fr1,fr2,fr3,fr4,fr5⟩:=Blk.f6 HX8.out.re;have HZ:Hid (Blk ((((((w8.setCell ⟨w.heap.size,0,none⟩ (.int .i64 3)).setCell ⟨w.heap.size,1,none⟩ (.int .u64 (q.a:Int))).setCell ⟨w.heap.size,2,none⟩ (.int .u64 (q.b:Int))).setCell ⟨w.heap.size,3,none⟩ (.int .u64 (q.c:Int))).setCell ⟨w.heap.size,4,none⟩ (.int .u64 (q.d:Int))).setCell ⟨w.heap.size,5,none⟩ (.slice none 0 0)) w.heap.size 125 #[.int .i64 3,.int .u64 (q.a:Int),.int .u64 (q.b:Int),.int .u64 (q.c:Int),.int .u64 (q.d:Int),.slice none 0 0]):=qh ((((((HX8.out.re.set_ 0 _).set_ 1 _).set_ 2 _).set_ 3 _).set_ 4 _).set_ 5 _);have hne:=HX8.out.lt;have HZK:Hid (KeptOff w ((((((w8.setCell ⟨w.heap.size,0,none⟩ (.int .i64 3)).setCell ⟨w.heap.size,1,none⟩ (.int .u64 (q.a:Int))).setCell ⟨w.heap.size,2,none⟩ (.int .u64 (q.b:Int))).setCell ⟨w.heap.size,3,none⟩ (.int .u64 (q.c:Int))).setCell ⟨w.heap.size,4,none⟩ (.int .u64 (q.d:Int))).setCell ⟨w.heap.size,5,none⟩ (.slice none 0 0)) g):=qh ((((((HX8.out.ko.new_ (p:=⟨w.heap.size,0,none⟩) (Nat.le_refl _) _).new_ (p:=⟨w.heap.size,1,none⟩) (Nat.le_refl _) _).new_ (p:=⟨w.heap.size,2,none⟩) (Nat.le_refl _) _).new_ (p:=⟨w.heap.size,3,none⟩) (Nat.le_refl _) _).new_ (p:=⟨w.heap.size,4,none⟩) (Nat.le_refl _) _).new_ (p:=⟨w.heap.size,5,none⟩) (Nat.le_refl _) _)
    have HZR:Hid (Rd ((((((w8.setCell ⟨w.heap.size,0,none⟩ (.int .i64 3)).setCell ⟨w.heap.size,1,none⟩ (.int .u64 (q.a:Int))).setCell ⟨w.heap.size,2,none⟩ (.int .u64 (q.b:Int))).setCell ⟨w.heap.size,3,none⟩ (.int .u64 (q.c:Int))).setCell ⟨w.heap.size,4,none⟩ (.int .u64 (q.d:Int))).setCell ⟨w.heap.size,5,none⟩ (.slice none 0 0)) g s (tkX s F.2 93) op):=qh ((((((Blk.far HX8.out.rd (by dsimp only;omega) _).far (by dsimp only;omega) _).far (by dsimp only;omega) _).far (by dsimp only;omega) _).far (by dsimp only;omega) _).far (by dsimp only;omega) _)
   rotate_left
   focus
    have HC3:Hid (cls s x0=(q,tkX s (F.2.fl 3) 93)):=qh (by rw [HC2.out,if_pos hz]);have hXp:(F.2.fl 3).p<=s.size:=(by rw [ZG2];exact hFp);have hzi:((q.a:Int)==0&&((q.b:Int)==0&&((q.c:Int)==0&&(q.d:Int)==0)))=true:=(by rw [qc4];exact hz);have CF:=qh λ w' hr=>z88 s F.2 op g w' 3 hr
    obtain rfl:=K65 hz;clear HC2 hz;go_wp2_with fail;refine(CF.out _ HX.out.rd).mono ?_;rintro e w7 ⟨rfl,hr7,hk7⟩;have HX7:=qh (HX.out.kept hr7 hk7);clear hr7 hk7;obtain⟨q,hq0⟩:∃ q:Q4,q=⟨0,0,0,0⟩:=⟨_,rfl⟩;rw [<-hq0] at HC3 HX7 hqo;clear hq0;go_wp2_with fail;refine(k06 s hs (F.2.fl 3) op g _ 93 hXp HX7.out.rd).mono ?_;rintro e w8 ⟨rfl,hr8,hk8⟩;have HX8:=qh (HX7.out.kept hr8 hk8);clear hr8 hk8 s0 s1 s2 s3;obtain⟨s0,s1,s2,s3⟩:=Blk.c4 HX8.out.se;obtain⟨r0,r1,r2,r3,r4,r5⟩:=Blk.c6 HX8.out.re;obtain⟨fr0,fr1,fr2,fr3,fr4,fr5⟩:=Blk.f6 HX8.out.re;have HZ:Hid (Blk ((((((w8.setCell ⟨w.heap.size,0,none⟩ (.int .i64 3)).setCell ⟨w.heap.size,1,none⟩ (.int .u64 (q.a:Int))).setCell ⟨w.heap.size,2,none⟩ (.int .u64 (q.b:Int))).setCell ⟨w.heap.size,3,none⟩ (.int .u64 (q.c:Int))).setCell ⟨w.heap.size,4,none⟩ (.int .u64 (q.d:Int))).setCell ⟨w.heap.size,5,none⟩ (.slice none 0 0)) w.heap.size 125 #[.int .i64 3,.int .u64 (q.a:Int),.int .u64 (q.b:Int),.int .u64 (q.c:Int),.int .u64 (q.d:Int),.slice none 0 0]):=qh ((((((HX8.out.re.set_ 0 _).set_ 1 _).set_ 2 _).set_ 3 _).set_ 4 _).set_ 5 _);have hne:=HX8.out.lt;have HZK:Hid (KeptOff w ((((((w8.setCell ⟨w.heap.size,0,none⟩ (.int .i64 3)).setCell ⟨w.heap.size,1,none⟩ (.int .u64 (q.a:Int))).setCell ⟨w.heap.size,2,none⟩ (.int .u64 (q.b:Int))).setCell ⟨w.heap.size,3,none⟩ (.int .u64 (q.c:Int))).setCell ⟨w.heap.size,4,none⟩ (.int .u64 (q.d:Int))).setCell ⟨w.heap.size,5,none⟩ (.slice none 0 0)) g):=qh ((((((HX8.out.ko.new_ (p:=⟨w.heap.size,0,none⟩) (Nat.le_refl _) _).new_ (p:=⟨w.heap.size,1,none⟩) (Nat.le_refl _) _).new_ (p:=⟨w.heap.size,2,none⟩) (Nat.le_refl _) _).new_ (p:=⟨w.heap.size,3,none⟩) (Nat.le_refl _) _).new_ (p:=⟨w.heap.size,4,none⟩) (Nat.le_refl _) _).new_ (p:=⟨w.heap.size,5,none⟩) (Nat.le_refl _) _)
    have HZR:Hid (Rd ((((((w8.setCell ⟨w.heap.size,0,none⟩ (.int .i64 3)).setCell ⟨w.heap.size,1,none⟩ (.int .u64 (q.a:Int))).setCell ⟨w.heap.size,2,none⟩ (.int .u64 (q.b:Int))).setCell ⟨w.heap.size,3,none⟩ (.int .u64 (q.c:Int))).setCell ⟨w.heap.size,4,none⟩ (.int .u64 (q.d:Int))).setCell ⟨w.heap.size,5,none⟩ (.slice none 0 0)) g s (tkX s (F.2.fl 3) 93) op):=qh ((((((Blk.far HX8.out.rd (by dsimp only;omega) _).far (by dsimp only;omega) _).far (by dsimp only;omega) _).far (by dsimp only;omega) _).far (by dsimp only;omega) _).far (by dsimp only;omega) _)
   all_goals
    clear HX8;go_wp2_with fail;obtain⟨wz,hwz⟩:∃ wz,wz=((((((w8.setCell ⟨w.heap.size,0,none⟩ (.int .i64 3)).setCell ⟨w.heap.size,1,none⟩ (.int .u64 (q.a:Int))).setCell ⟨w.heap.size,2,none⟩ (.int .u64 (q.b:Int))).setCell ⟨w.heap.size,3,none⟩ (.int .u64 (q.c:Int))).setCell ⟨w.heap.size,4,none⟩ (.int .u64 (q.d:Int))).setCell ⟨w.heap.size,5,none⟩ (.slice none 0 0)):=⟨_,rfl⟩;have hz:=HZ.out;have hzk:=HZK.out;have hzr:=HZR.out;rw [<-hwz] at hz hzk hzr⊢;obtain⟨z0,z1,z2,z3,z4,z5⟩:=Blk.c6 hz;refine bodyPost_ret (v:= .agg #[.int .i64 3,.int .u64 (q.a:Int),.int .u64 (q.b:Int),.int .u64 (q.c:Int),.int .u64 (q.d:Int),.slice none 0 0]) (by simp [results,Tryz.results216,go_sem,z0,z1,z2,z3,z4,z5]) rfl ⟨q,rfl,by rw [HC3.out],hqo,by rw [HC3.out];exact hzr,hzk⟩
end Go.Proofs.YtngepacmgabmaaaGreatDoor
