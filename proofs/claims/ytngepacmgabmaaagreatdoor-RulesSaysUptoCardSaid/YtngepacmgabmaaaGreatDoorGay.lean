/- Walk: wickref.Prog; Walk: wickref.Ranges .. -/
import Derived.Test.YtngepacmgabmaaaGreatDoorGax
namespace Go.Proofs.YtngepacmgabmaaaGreatDoor
open Go.RowKit
set_option linter.unusedVariables false
set_option linter.unusedSimpArgs false
def thB (n:Nat) (a:Int):Bool:=decide (0<=a/\a<(n:Int))
theorem qD7 {n:Nat} {a:Int}:thB n a=true<->j70 n a:=by unfold thB j70;exact decide_eq_true_iff
theorem stat (n:Nat) (a:Int):(decide (0<=a)=false/\thB n a=false)\/(decide (0<=a)=true/\decide (a<(n:Int))=false/\thB n a=false)\/(decide (0<=a)=true/\decide (a<(n:Int))=true/\thB n a=true):=by
 unfold thB;by_cases h:0<=a
 . by_cases k:a<(n:Int)
   . exact .inr (.inr ⟨decide_eq_true h,decide_eq_true k,decide_eq_true ⟨h,k⟩⟩)
   . exact .inr (.inl ⟨decide_eq_true h,decide_eq_false k,decide_eq_false λ q=>k q.2⟩)
 . exact .inl ⟨decide_eq_false h,decide_eq_false λ q=>h q.1⟩
theorem kind7 (k:Int):(k=1\/k=4\/k=5)\/k=2\/k=3\/k=6\/((k==1)=false/\(k==2)=false/\(k==3)=false/\(k==4)=false/\(k==5)=false/\(k==6)=false/\k≠1/\k≠2/\k≠3/\k≠4/\k≠5/\k≠6):=by
 simp only [beq_eq_false_iff_ne];omega
section
variable (l:List In) (A:Option Addr) (c B:Nat) (w:World)
set_option maxRecDepth 100000 in
set_option maxHeartbeats 8000000 in
theorem ZW7 (h:InR w B A c l):
 Calls Tryz.prog 89 #[.slice A l.length c] w λ e w'=>e= .returned (.int .i64 (Qc7 l))/\∃ q,w'=w.drewN q:=by
 by_cases h1:400<l.length
 . have d1:(400:Int)<(l.length:Int):=(by omega);have eP:Qc7 l=2:=(by unfold Qc7;rw [if_pos h1]);rw [eP];clear h eP;go_enter Tryz.func89,Tryz.ntmps89;go_wp2_with fail;go_ret;exact⟨rfl,0,rfl⟩
 . have d1:¬(400:Int)<(l.length:Int):=(by omega);have HR:=qh h;have HE:=qh (rfl:Qc7 l=Qc7 l);clear h;go_enter Tryz.func89,Tryz.ntmps89;go_wp2_with fail
   go_loopg [3] (l.length) (λ g i wr=>∃ k:Nat,k<=l.length/\i= .int .i64 k/\g=l.length-k/\Hid (∃ q,wr=w.drewN q)/\Hid (∀ i x,i<k->l[i]? =some x->zq1 l.length i x))
   case atStart=>exact⟨0,by omega,rfl,rfl,⟨0,rfl⟩,λ i x h=>absurd h (by omega)⟩
   case round=>
    obtain⟨k,hk,rfl,hg,HW,HI⟩:=hrel;have HG:=qh hg;clear hg;by_cases hlk:k<l.length
    . obtain⟨x,hx⟩:∃ x,l[k]? =some x:=⟨l[k],List.getElem?_eq_getElem hlk⟩;have hRw:InR wr B A c l:=(by obtain⟨q,e⟩:=HW.out;rw [e];exact HR.out.drewN q);obtain⟨ad,rfl,hbk,x0,x1,x2,x3,x4,x5,x6⟩:=hRw.at_ hx;have i1:(k:Int)<(l.length:Int):=(by omega);have i2:(0:Int)<=(k:Int):=(by omega);have i3:IntKind.i64.wrap ((k:Int)+1)=(k:Int)+1:=IntWalk.i64_in _ (by omega);have HRw:=qh hRw;have HX:=qh hx;clear hRw hx x3 x4 x5 x6;go_upto_region 6 with fail;go_cut [4,5] from 10 to 74 (λ u v wx=>u= .bool (thB l.length x.a)/\v= .bool (thB l.length x.b)/\∃ q,wr.drewN q=wx)
      case first=>
       rcases stat l.length x.a with⟨pa,ta⟩|⟨pa,la,ta⟩|⟨pa,la,ta⟩<;>rcases stat l.length x.b with⟨pb,tb⟩|⟨pb,lb,tb⟩|⟨pb,lb,tb⟩
       all_goals
        have TA:=qh ta;have TB:=qh tb;clear ta tb;go_quiet (fail)
        go_wp2_with fail;go_meet;exact⟨by rw [TA.out],by rw [TB.out],_,rfl⟩
      case rest=>
       obtain⟨rfl,rfl,q,hq⟩:=hcut;have hRv:InR wc B (some ad) c l:=by rw [<-hq];exact HRw.out.drewN q
       have HWc:Hid (∃ q,wc=w.drewN q):=by
        obtain⟨q1,e1⟩:=HW.out;exact⟨q1+q,by rw [<-hq,e1];exact World.drewN_drewN _ _ _⟩
       obtain⟨ad',ea,_,x0,x1,x2,_⟩:=hRv.at_ HX.out;injection ea with ea;subst ea;clear hq hRv i3
       have HRI:zq1 l.length k x->Hid (∀ i x,i<k+1->l[i]? =some x->zq1 l.length i x):=λ hRI i y hi hy=>by
        by_cases e:i=k
        . subst e;rw [HX.out] at hy;cases hy;exact hRI
        . exact HI.out i y (by omega) hy
       have HNE:¬zq1 l.length k x->Hid (Qc7 l=1):=λ h=>QN1 h1 HX.out h
       rcases kind7 x.k with c|c|c|c|⟨n1,n2,n3,n4,n5,n6,m⟩
       . by_cases hl:k+1<l.length
         . have HI2:=HRI (by unfold zq1;exact .inr (.inr (.inl ⟨c,hl⟩)));have i4:(k:Int)<(l.length:Int)-1:=(by omega);clear HRI HNE;rcases c with c|c|c
           all_goals
            rw [c] at x0;clear c;go_wp2_with fail
            go_roundg (l.length-(k+1))
            case measure=>rw [HG.out];omega
            case rel=>exact⟨k+1,by omega,by go_num,rfl,HWc,HI2⟩
         . have HE:=HNE (by unfold zq1;omega);have i4:¬(k:Int)<(l.length:Int)-1:=(by omega);clear HRI HNE;rcases c with c|c|c
           all_goals
            rw [c] at x0;clear c;go_wp2_with fail;go_ret;exact⟨by show Ending.returned (.int .i64 1)=_;rw [HE.out],HWc.out⟩
       . cases ta:thB l.length x.a with
         |false=>
          have HE:=HNE (by have:=mt qD7.2 (by rw [ta];decide);unfold zq1;unfold j70 at this⊢;omega);clear HRI HNE;rw [c] at x0;clear c;go_wp2_with fail;go_ret;exact⟨by show Ending.returned (.int .i64 1)=_;rw [HE.out],HWc.out⟩
         |true=>
          cases tb:thB l.length x.b with
          |false=>
           have HE:=HNE (by have:=mt qD7.2 (by rw [tb];decide);unfold zq1;unfold j70 at this⊢;omega);clear HRI HNE;rw [c] at x0;clear c;go_wp2_with fail;go_ret;exact⟨by show Ending.returned (.int .i64 1)=_;rw [HE.out],HWc.out⟩
          |true=>
           have HI2:=HRI (by unfold zq1;exact .inl ⟨c,qD7.1 ta,qD7.1 tb⟩);clear HRI HNE;rw [c] at x0;clear c;go_wp2_with fail
           go_roundg (l.length-(k+1))
           case measure=>rw [HG.out];omega
           case rel=>exact⟨k+1,by omega,by go_num,rfl,HWc,HI2⟩
       . cases ta:thB l.length x.a with
         |false=>
          have HE:=HNE (by have:=mt qD7.2 (by rw [ta];decide);unfold zq1;unfold j70 at this⊢;omega);clear HRI HNE;rw [c] at x0;clear c;go_wp2_with fail;go_ret;exact⟨by show Ending.returned (.int .i64 1)=_;rw [HE.out],HWc.out⟩
         |true=>
          have HI2:=HRI (by unfold zq1;exact .inr (.inl ⟨c,qD7.1 ta⟩));clear HRI HNE;rw [c] at x0;clear c;go_wp2_with fail
          go_roundg (l.length-(k+1))
          case measure=>rw [HG.out];omega
          case rel=>exact⟨k+1,by omega,by go_num,rfl,HWc,HI2⟩
       . have HI2:=HRI (by unfold zq1;exact .inr (.inr (.inr c)));clear HRI HNE;rw [c] at x0;clear c;go_wp2_with fail
         go_roundg (l.length-(k+1))
         case measure=>rw [HG.out];omega
         case rel=>exact⟨k+1,by omega,by go_num,rfl,HWc,HI2⟩
       . have HE:=HNE (by unfold zq1;omega);clear HRI HNE m;go_wp2_with fail;go_ret;exact⟨by show Ending.returned (.int .i64 1)=_;rw [HE.out],HWc.out⟩
    . obtain rfl:k=l.length:=(by omega);have d2:¬(l.length:Int)<(l.length:Int):=(by omega);have HRP:Hid (YU3 l):=λ i x hx=>HI.out i x (by obtain⟨h,_⟩:=List.getElem?_eq_some_iff.1 hx;exact h) hx
      by_cases h2:l.length=0
      . have d3:((l.length:Int)==0)=true:=(by rw [beq_iff_eq];omega);have eP:Hid (Qc7 l=1):=(by show Qc7 l=1;unfold Qc7;rw [if_neg h1,if_pos h2]);clear h2;go_wp2_with fail;go_ret;exact⟨by show Ending.returned (.int .i64 1)=_;rw [eP.out],HW.out⟩
      . have d3:((l.length:Int)==0)=false:=(by rw [beq_eq_false_iff_ne];omega);have eP:Hid (Qc7 l=0):=(by show Qc7 l=0;unfold Qc7;rw [if_neg h1,if_neg h2,if_pos HRP.out]);clear h2;go_wp2_with fail;go_ret;exact⟨by show Ending.returned (.int .i64 0)=_;rw [eP.out],HW.out⟩
end
structure Rb2 (w wr:World) (f:Nat->Bool):Prop where
 res:SBlk wr w.heap.size ⟨0,0,0,0⟩
 row:BoR wr (w.heap.size+1) 256 f
 be:Below w.heap.size w wr
section
variable {w wr w':World} {f:Nat->Bool}
theorem Rb2.kept (h:Rb2 w wr f) (hb:Below wr.heap.size wr w'):Rb2 w w' f:=⟨Blk.below h.res hb (Blk.lt h.res),h.row.kept hb,h.be.trans (hb.mono h.be.size)⟩
theorem Rb2.drewN (h:Rb2 w wr f) (n:Nat):Rb2 w (wr.drewN n) f:=⟨h.res,h.row.drewN n,below_drewN h.be n⟩
theorem Rb2.set_ (h:Rb2 w wr f) {k:Nat} (hk:k<256):Rb2 w (wr.setCell ⟨w.heap.size+1,k,none⟩ (.bool true)) (λ j=>if j=k then true else f j):=
 ⟨Blk.far h.res (by dsimp only;omega) _,h.row.set_ hk true,h.be.setCell (p:=⟨w.heap.size+1,k,none⟩) (by dsimp only;omega) _⟩
theorem Rb2.congr {g:Nat->Bool} (h:Rb2 w wr f) (e:∀ i,i<256->f i=g i):Rb2 w wr g:=⟨h.res,h.row.congr e,h.be⟩
theorem Rb2.resF (h:Rb2 w wr f):ResF w wr:=
 ⟨h.res.cell (k:=0) (by omega),h.res.cell (k:=1) (by omega),h.res.cell (k:=2) (by omega),h.res.cell (k:=3) (by omega),Blk.frozen h.res 0,Blk.frozen h.res 1,Blk.frozen h.res 2,Blk.frozen h.res 3⟩
theorem Rb2.put_ (h:Rb2 w wr f) (q:Q4):
 ∃ wz,wz=(((wr.setCell ⟨w.heap.size,0,none⟩ (.int .u64 (q.a:Int))).setCell ⟨w.heap.size,1,none⟩ (.int .u64 (q.b:Int))).setCell ⟨w.heap.size,2,none⟩ (.int .u64 (q.c:Int))).setCell ⟨w.heap.size,3,none⟩ (.int .u64 (q.d:Int))/\Below w.heap.size w wz/\
  wz.cell? ⟨w.heap.size,0,none⟩=some (.int .u64 (q.a:Int))/\wz.cell? ⟨w.heap.size,1,none⟩=some (.int .u64 (q.b:Int))/\wz.cell? ⟨w.heap.size,2,none⟩=some (.int .u64 (q.c:Int))/\wz.cell? ⟨w.heap.size,3,none⟩=some (.int .u64 (q.d:Int)):=by
 have h1:SBlk _ _ _:=h.res.setW (k:=0) (by omega) q.a;have h2:SBlk _ _ _:=h1.setW (k:=1) (by omega) q.b;have h3:SBlk _ _ _:=h2.setW (k:=2) (by omega) q.c;have h4:SBlk _ _ _:=h3.setW (k:=3) (by omega) q.d;exact⟨_,rfl,(((h.be.setCell (p:=⟨w.heap.size,0,none⟩) (Nat.le_refl _) _).setCell (p:=⟨w.heap.size,1,none⟩) (Nat.le_refl _) _).setCell (p:=⟨w.heap.size,2,none⟩) (Nat.le_refl _) _).setCell (p:=⟨w.heap.size,3,none⟩) (Nat.le_refl _) _,h4.cell (k:=0) (by omega),h4.cell (k:=1) (by omega),h4.cell (k:=2) (by omega),h4.cell (k:=3) (by omega)⟩
end
theorem Qn6 (b:Nat) (g:Nat) (f:Nat->Bool) (w:World) (hb:b<256) (h:BoR w g 256 f):
 Calls Tryz.prog 125 #[.int .i64 (b:Int),.pointer (some ⟨g,0,none⟩)] w λ e w'=>e= .returned (.bool (f b))/\Below w.heap.size w w':=by
 have y0:=h.cell b hb;have i1:(b:Int)<256:=by omega
 have i2:(0:Int)<=(b:Int):=by omega
 clear h;go_enter Tryz.func125,Tryz.ntmps125;go_wp2_with fail;go_ret;exact⟨rfl,Below.refl _ _⟩
theorem qB7 (g:Nat) (b:Int) (w':World):(callFunc 125 #[.int .i64 b,.pointer (some ⟨g,0,none⟩)]).run Tryz.prog w'= .ok (.enter 125 #[.int .i64 b,.pointer (some ⟨g,0,none⟩)]) w':=by kernel_rfl
set_option maxRecDepth 100000 in
set_option maxHeartbeats 4000000 in
theorem XJ1 (s:ByteArray) (w:World) (hs:s.size<=1048576):
 Calls Tryz.prog 94 #[.string s] w (X93 s w):=by
 obtain⟨W,hW⟩:∃ W,(w.alloc (.cells #[.int .u64 0,.int .u64 0,.int .u64 0,.int .u64 0] 122)).alloc (.cells Tryz.zeroCells172 172)=W:=⟨_,rfl⟩
 have hS0:Rb2 w W (λ _=>false):=by
  refine⟨?_,?_,by rw [<-hW];exact((Below.refl _ _).alloc (Nat.le_refl _) _).alloc (by simp) _⟩
  . rw [<-hW];exact Blk.alloc (SBlk.new w) _
  . have:=QK9 (w.alloc (.cells #[.int .u64 0,.int .u64 0,.int .u64 0,.int .u64 0] 122));rw [hW] at this;simpa using this
 have CS:=qh (kK5 s ⟨#[44]⟩ W hs (by decide) (by decide));have hWz:w.heap.size+1<W.heap.size:=hS0.row.lt;obtain⟨L,hL⟩:∃ L,L=pcs s ⟨#[44]⟩:=⟨_,rfl⟩;have HLs:Hid (∀ x∈L,x.size<=s.size):=by rw [hL];exact zN9 _ (by decide) s.size s (Nat.le_refl _)
 have hL0:0<L.length:=by rw [hL];exact Qw2 _ _ (by decide)
 have hL1:L.length<=1048577:=by rw [hL];have:=jy8 (s:=s) (t:=⟨#[44]⟩) (by decide);omega
 rw [<-hL] at CS;have HL:=qh hL;have HS0:=qh hS0;clear hL hS0;go_enter Tryz.func94,Tryz.ntmps94;go_wp2_with fail;refine CS.out.mono ?_;rintro e w1 ⟨v,rfl,ho,b1⟩;obtain⟨A,c,rfl⟩:=ho.form;obtain⟨g,rfl,hg,hgl,_,hcell⟩:=ho.at_ hL0;have HS1:=qh (HS0.out.kept b1);have HO1:Hid (SR w1 g L):=⟨hgl,hcell⟩;clear ho b1 CS hW hcell;go_wp2_with fail;go_loopw [6] (λ u wr=>∃ (k:Nat) (f:Nat->Bool),u= .int .i64 (k:Int)/\k<=L.length/\Rb2 w wr f/\SR wr g L/\Hid (∀ j,j<256->f j=rgU (L.take k) j)/\Hid (∀ x∈L.take k,ZM6 x)) (λ u _=>L.length-(intOf u).toNat)
 case atStart=>exact⟨0,_,rfl,by omega,HS1.out,HO1.out,λ b _=>rfl,λ x hx=>absurd hx (by simp)⟩
 case round=>
  clear HS0 HS1 HO1;obtain⟨k,f,rfl,hk,hS,hO,HQ,HA⟩:=hrel;have HS:=qh hS;have HO:=qh hO;by_cases hlk:k<L.length
  . have k1:(k:Int)<(L.length:Int):=(by omega);have k2:(0:Int)<=(k:Int):=(by omega);obtain⟨x,hx⟩:∃ x,x=L[k]:=⟨_,rfl⟩;have y0:wr.cell? ⟨g,k,none⟩=some (.string x):=(by rw [hx];exact hO.cell k hlk);have hxs:x.size<=s.size:=HLs.out x (by rw [hx];exact List.getElem_mem _);have CC:=xW6 x ⟨#[45]⟩ wr (by omega) (by decide);have hsz:=Jb0 x ⟨#[45]⟩;have hbd:=Yw5 x;have HT:Hid (L.take (k+1)=L.take k++ [x]):=(by show _=_;rw [YE3 hlk,hx]);have HX:Hid (x∈pcs s ⟨#[44]⟩):=(by show _∈_;rw [<-HL.out,hx];exact List.getElem_mem _);have hA:rgA x=(y27 x ⟨#[45]⟩).1:=rfl;have hB:rgB x=if (y27 x ⟨#[45]⟩).2.2=true then (y27 x ⟨#[45]⟩).2.1 else (y27 x ⟨#[45]⟩).1:=rfl
    obtain⟨c1,hc1⟩:∃ c1,c1=(y27 x ⟨#[45]⟩).1:=⟨_,rfl⟩;obtain⟨c2,hc2⟩:∃ c2,c2=(y27 x ⟨#[45]⟩).2.1:=⟨_,rfl⟩;obtain⟨c3,hc3⟩:∃ c3,c3=(y27 x ⟨#[45]⟩).2.2:=⟨_,rfl⟩;rw [<-hc1,<-hc2,<-hc3] at CC hB;rw [<-hc1] at hA;rw [<-hc1,<-hc2] at hsz;obtain⟨hz1,hz2⟩:=hsz;have CN1:=λ w'=>jy2 c1 255 w' (by unfold maxLen;omega)
    obtain⟨lo,hlo⟩:∃ lo,lo=yg5 x:=⟨_,rfl⟩;obtain⟨hi,hhi⟩:∃ hi,hi=xf3 x:=⟨_,rfl⟩;have e1:smN c1 255=lo:=(by rw [hlo];unfold yg5;rw [hA]);rw [e1] at CN1;rw [<-hlo,<-hhi] at hbd;obtain⟨l1,l2,l3,l4⟩:=hbd;have HOK:Hid (ZM6 x<->0<=lo/\lo<=hi):=(by show ZM6 x<->_;unfold ZM6;rw [<-hlo,<-hhi]);have HU:Hid (∀ j,rgU (L.take (k+1)) j=(rgU (L.take k) j||decide (lo<=(j:Int)/\(j:Int)<=hi))):=λ j=>by rw [HT.out,JG8,<-hlo,<-hhi]
    have CN2:Hid (∀ w',Calls Tryz.prog 50 #[.string (if c3=true then c2 else c1),.int .i64 255] w' λ e w''=>e= .returned (.int .i64 hi)/\∃ q,w''=w'.drewN q):=λ w'=>by
     have:=jy2 (rgB x) 255 w' (by rw [hB];unfold maxLen;split<;>omega);rw [hhi];rw [hB] at this;unfold xf3;rw [hB];exact this
    have CN1:=qh CN1;have CC:=qh CC;clear hx hc1 hc2 hc3 hA hB e1 hlo hhi hS hO;go_wp2_with fail;refine CC.out.mono ?_;rintro e w2 ⟨rfl,q2,hq2⟩;have hS2:=HS.out.drewN q2;have hO2:=HO.out.drewN q2;rw [<-hq2] at hS2 hO2;have HS2:=qh hS2;have HO2:=qh hO2;clear hS2 hO2 hq2 HS HO CC y0;cases c3
    all_goals
     simp only [if_true,if_false,Bool.false_eq_true] at CN2;go_wp2_with fail;refine(CN1.out _).mono ?_;rintro e w3 ⟨rfl,q3,hq3⟩;have hS3:=HS2.out.drewN q3;have hO3:=HO2.out.drewN q3;rw [<-hq3] at hS3 hO3;have HS3:=qh hS3;have HO3:=qh hO3;clear hS3 hO3 hq3;go_wp2_with fail;refine(CN2.out _).mono ?_;rintro e w4 ⟨rfl,q4,hq4⟩;have hS4:=HS3.out.drewN q4;have hO4:=HO3.out.drewN q4;rw [<-hq4] at hS4 hO4;have HS4:=qh hS4;have HO4:=qh hO4;obtain⟨r0,r1,r2,r3,f0,f1,f2,f3⟩:=hS4.resF;clear hS4 hO4 hq4 HS3 HO3;by_cases hok:0<=lo/\lo<=hi
     . obtain⟨g1,g2⟩:=hok
       have HOK1:Hid (∀ y∈L.take (k+1),ZM6 y):=λ y hy=>by
        rw [HT.out,List.mem_append,List.mem_singleton] at hy;rcases hy with hy|rfl
        . exact HA.out y hy
        . exact HOK.out.2 ⟨g1,g2⟩
       obtain⟨a,rfl⟩:=Int.eq_ofNat_of_zero_le g1;obtain⟨b,rfl⟩:=Int.eq_ofNat_of_zero_le (show 0<=hi by omega);have d1:¬(a:Int)<0:=(by omega);have d2:¬(b:Int)<0:=(by omega);have d3:¬(b:Int)<(a:Int):=(by omega);clear r0 r1 r2 r3 f0 f1 f2 f3;go_wp2_with fail;obtain⟨wm,rfl⟩:∃ wm:World,wm=wr:=⟨_,rfl⟩;go_loopw [12] (λ u wr=>∃ (j:Nat) (f':Nat->Bool),u= .int .i64 (j:Int)/\a<=j/\j<=b+1/\Rb2 w wr f'/\SR wr g L/\Hid (∀ z,f' z=(f z||decide (a<=z/\z<j)))) (λ u _=>b+1-(intOf u).toNat)
       case atStart=>exact⟨a,f,rfl,by omega,by omega,HS4.out,HO4.out,λ z=>by rw [decide_eq_false (by omega),Bool.or_false]⟩
       case round=>
        obtain⟨j,f',rfl,haj,hjb,hS,hO,HF⟩:=hrel;by_cases hjl:j<=b
        . have j1:(j:Int)<=(b:Int):=(by omega);have j2:(0:Int)<=(j:Int):=(by omega);have j3:(j:Int)<256:=(by omega);have y0:=hS.row.cell j (by omega);have y1:=hS.row.frozen j (by omega);have HN:=qh (hS.set_ (k:=j) (by omega));have HN2:=qh (hO.far (p:=⟨w.heap.size+1,j,none⟩) (by dsimp only;omega) (.bool true));clear hS hO;go_wp2_with fail;go_roundw
          case rel=>exact⟨j+1,_,by go_num,by omega,by omega,HN.out,HN2.out,λ z=>by
           rw [HF.out z];by_cases e:z=j
           . subst e;rw [if_pos rfl,decide_eq_true (show a<=z/\z<z+1 by omega),Bool.or_true]
           . rw [if_neg e];congr 1;rw [Bool.eq_iff_iff,decide_eq_true_eq,decide_eq_true_eq];omega⟩
          case measure=>simp [intOf];omega
        . obtain rfl:j=b+1:=(by omega);have j1:¬((b:Int)+1)<=(b:Int):=(by omega);have HS7:=qh hS;have HO7:=qh hO;clear hS hO hjl;go_wp2_with fail;go_roundw
          case rel=>exact⟨k+1,f',by go_num,by omega,HS7.out,HO7.out,λ z hz=>by
           rw [HU.out,HF.out,HQ.out z hz];congr 1;rw [Bool.eq_iff_iff,decide_eq_true_eq,decide_eq_true_eq];omega,HOK1⟩
          case measure=>simp [intOf];omega
     . have HNO:Hid (¬ZM6 x):=λ h=>hok (HOK.out.1 h)
       have hcs:lo<0\/(¬lo<0/\hi<0)\/(¬lo<0/\¬hi<0/\hi<lo):=(by omega);clear hok;rcases hcs with d1|⟨d1,d2⟩|⟨d1,d2,d3⟩
       all_goals
        go_wp2_with fail;obtain⟨wz,hwz,hz,z0,z1,z2,z3⟩:=HS4.out.put_ ⟨0,0,0,0⟩;have hwz2:=hwz;simp only [Int.natCast_zero] at hwz2 z0 z1 z2 z3;rw [<-hwz2];refine bodyPost_ret (v:= .tuple #[Qj7 ⟨0,0,0,0⟩,.int .i64 3]) (by simp [results,Tryz.results94,go_sem,z0,z1,z2,z3,Qj7]) rfl ⟨.inr ⟨⟨x,HX.out,HNO.out⟩,rfl⟩,hz⟩
  . obtain rfl:k=L.length:=(by omega);have HTk:Hid (L.take L.length=pcs s ⟨#[44]⟩):=(by show _=_;rw [List.take_length,HL.out]);have CW:=qh (yc4 125 ⟨w.heap.size+1,0,none⟩ f wr (qB7 _) λ b w' hb hbl=>Qn6 b (w.heap.size+1) f w' hb (hS.row.kept hbl));clear hS hO hlk;go_wp2_with fail;refine CW.out.mono ?_;rintro e w9 ⟨q,rfl,hq,b9⟩;have hS9:=HS.out.kept b9;obtain⟨r0,r1,r2,r3,f0,f1,f2,f3⟩:=hS9.resF;have HS9:=qh hS9;have HQ9:=qh hq;clear hS9 hq b9 CW;unfold Qj7;go_wp2_with fail;obtain⟨wz,hwz,hz,z0,z1,z2,z3⟩:=HS9.out.put_ q;rw [<-hwz];refine bodyPost_ret (v:= .tuple #[Qj7 q,.int .i64 0]) (by simp [results,Tryz.results94,go_sem,z0,z1,z2,z3,Qj7]) rfl ⟨.inl ⟨λ y hy=>HA.out y (by rw [HTk.out];exact hy),q,rfl,HQ9.out.1,λ j hj=>by rw [HQ9.out.2 j hj,HQ.out j hj,HTk.out]⟩,hz⟩
theorem xD9 {w:World} {W:World} {B:Nat} (h:Below B w W) {g:Nat} (hg:B<=g) (x0 x1 x2 x3 x4:Int) (xA:Option Addr) (xl xc:Nat):Below B w ((((((W.setCell ⟨g,0,none⟩ (.int .i64 x0)).setCell ⟨g,1,none⟩ (.int .u64 x1)).setCell ⟨g,2,none⟩ (.int .u64 x2)).setCell ⟨g,3,none⟩ (.int .u64 x3)).setCell ⟨g,4,none⟩ (.int .u64 x4)).setCell ⟨g,5,none⟩ (.slice xA xl xc)):=
 JC5 h hg x0 x1 x2 x3 x4 xA xl xc
section
variable (op:Int) (s:ByteArray) (w:World)
set_option maxRecDepth 100000 in
set_option maxHeartbeats 4000000 in
theorem yQ1 (hs:s.size<=1048576) (h1:1<=op) (h2:op<=12):
 Calls Tryz.prog 57 #[.int .i64 op,.string s] w λ e w'=>e= .returned (.int .i64 (YX5 op s))/\Below w.heap.size w w':=by
 have hop:op=1\/op=2\/(op=7\/op=8\/op=9)\/op=10\/op=11\/op=12\/(op=3\/op=4\/op=5\/op=6):=by omega
 obtain⟨R,hR⟩:∃ R,R=YX5 op s:=⟨_,rfl⟩;rw [<-hR];unfold YX5 at hR;rcases hop with rfl|rfl|hop|rfl|rfl|rfl|hop
 . obtain⟨W0,hW0⟩:∃ W0,w.alloc (.cells #[.int .i64 0,.int .u64 0,.int .u64 0,.int .u64 0,.int .u64 0,.slice none 0 0] 125)=W0:=⟨_,rfl⟩;have hk0:Blk W0 w.heap.size 125 #[.int .i64 0,.int .u64 0,.int .u64 0,.int .u64 0,.int .u64 0,.slice none 0 0]:=(by rw [<-hW0];exact Blk.new _ _ _);have HB0:Hid (Below w.heap.size w W0):=qh (by rw [<-hW0];exact(Below.refl _ _).alloc (Nat.le_refl _) _);have hlt0:w.heap.size<W0.heap.size:=Blk.lt hk0;have HK0:=qh hk0;have HW0:=qh hW0
   have CP:Hid (Calls Tryz.prog 88 #[.string s] W0 (YR7 s W0)):=qh (by
    by_cases h:200<s.size
    . exact(qt4 s W0 h).mono λ _ _=>ZZ4
    . exact(KJ6 s W0 (by omega)).mono λ _ _=>ZZ4)
   unfold YR7 at CP;replace hR:R=rxE s:=hR;rw [<-hR] at CP;clear hR hk0 hW0;go_enter Tryz.func57,Tryz.ntmps57;go_wp2_with fail;rw [HW0.out];refine CP.out.mono ?_;rintro e w1 ⟨x0,x1,x2,x3,x4,at_,xA,xl,xc,rfl,hq,b1⟩;have HB1:=qh (HB0.out.trans (b1.mono HB0.out.size));have hk1:=HK0.out.below b1 hlt0;have hz1:w.heap.size<w1.heap.size:=Blk.lt hk1;obtain⟨y0,y1,y2,y3,y4,y5⟩:=Blk.c6 hk1;obtain⟨f0,f1,f2,f3,f4,f5⟩:=Blk.f6 hk1;have HK1:=qh hk1;have HQ:=qh hq;clear b1 hq CP hk1;by_cases h0:R=0
   . have e0:(R !=0)=false:=bne_eq_false_iff_eq.2 h0;have e1:(R==0)=true:=beq_iff_eq.2 h0;obtain⟨m,ht,hm0⟩:=HQ.out h0;have ht2:=ht.put6 (g:=w.heap.size) (λ h=>by have:=h.1;omega) x0 x1 x2 x3 x4 xA xl xc;obtain⟨hr,q,hq,hz⟩:=y56 (B:=w1.heap.size) ht2 (λ b hb=>hb.2) hm0;have HOK:=qh (yL0 hq);have HL:=qh (yS1 q hz);have hpb:=xD9 HB1.out (Nat.le_refl _) x0 x1 x2 x3 x4 xA xl xc;have hzz:=j80 w1 w.heap.size x0 x1 x2 x3 x4 xA xl xc;have CM:=qh (Qe6 q _ w1.heap.size _ hq (Nat.le_of_eq hzz.symm) hz);have HPB:=qh hpb;have HRz:=qh h0;clear h0 HQ ht ht2 hr hq hm0 hz hpb hzz;go_wp2_with fail;refine CM.out.mono ?_;rintro e w3 ⟨v3,rfl,ho,b3⟩;obtain⟨A3,c3,rfl,hI⟩:=zN0 ho HOK.out;have HB3:=qh (HPB.out.trans (b3.mono HPB.out.size));have CC:=qh (ZW7 (zz8 q) A3 c3 w3.heap.size w3 hI);have hL:Qc7 (zz8 q)=0:=HL.out;rw [hL] at CC;clear ho b3 hI hL;go_wp2_with fail;refine CC.out.mono ?_;rintro e w4 ⟨rfl,k4,rfl⟩;go_wp2_with fail;go_ret;exact⟨by rw [HRz.out];rfl,below_drewN HB3.out _⟩
   . have e0:(R !=0)=true:=bne_iff_ne.2 h0;have e1:(R==0)=false:=beq_eq_false_iff_ne.2 h0;clear h0 HQ;go_wp2_with fail;go_ret;exact⟨rfl,xD9 HB1.out (Nat.le_refl _) x0 x1 x2 x3 x4 xA xl xc⟩
 . have CS:=qh (kK5 s ⟨#[124]⟩ w hs (by decide) (by decide));replace hR:R=phE s:=hR;have HR:=qh hR;clear hR;go_enter Tryz.func57,Tryz.ntmps57;go_wp2_with fail;refine CS.out.mono ?_;rintro e w1 ⟨v1,rfl,ho,b1⟩;obtain⟨A1,c1,rfl,hw⟩:=kB3 ho;have HB1:=qh b1;have CK:=qh (Kx9 (pcs s ⟨#[124]⟩) A1 c1 _ w1 hw);have HWW:=qh hw;unfold phE at HR;obtain⟨K,hK⟩:∃ K,K=yR7 (pcs s ⟨#[124]⟩):=⟨_,rfl⟩;rw [<-hK] at CK HR;have HKK:=qh hK;clear ho b1 hw hK;go_wp2_with fail;refine CK.out.mono ?_;rintro e w2 ⟨rfl,rfl⟩;by_cases h0:K=0
   . have e0:(K==0)=true:=beq_iff_eq.2 h0;have CT:=qh (Kg0 (pcs s ⟨#[124]⟩) A1 c1 _ _ HWW.out (JY5 (HKK.out.symm.trans h0)));unfold xx5 at CT;have HR2:=qh (show R=if 400<(tx (wsL (pcs s ⟨#[124]⟩)) 40).length then 2 else 0 from by rw [HR.out,if_neg (by simp [h0])]);clear h0 HR;go_wp2_with fail;refine CT.out.mono ?_;rintro e w3 ⟨b3,hr⟩;have HB3:=qh (HB1.out.trans (b3.mono HB1.out.size));clear b3 CT;rcases hr with⟨h4,rfl⟩|⟨h4,A3,c3,rfl,_⟩
     . have HR3:Hid (R=2):=qh (by rw [HR2.out,if_pos h4]);clear h4 HR2;go_wp2_with fail;go_ret;exact⟨by rw [HR3.out];rfl,HB3.out⟩
     . have HR3:Hid (R=0):=qh (by rw [HR2.out,if_neg (by omega)]);clear h4 HR2;go_wp2_with fail;go_ret;exact⟨by rw [HR3.out];rfl,HB3.out⟩
   . have e0:(K==0)=false:=beq_eq_false_iff_ne.2 h0;have HR2:Hid (R=K):=qh (by rw [HR.out,if_pos h0]);clear h0 HR;go_wp2_with fail;go_ret;exact⟨by rw [HR2.out];rfl,HB1.out⟩
 . have CD:=qh (Jw5 s 10 9 w (by unfold maxLen;omega) (by decide) (by decide) (by decide) (by decide))
   replace hR:R=qH0 10 9 s:=by
    rcases hop with rfl|rfl|rfl<;>exact hR
   have HR:=qh hR;clear hR;rcases hop with rfl|rfl|rfl
   all_goals
    go_enter Tryz.func57,Tryz.ntmps57;go_wp2_with fail;refine CD.out.mono ?_;rintro e w1 ⟨rfl,rfl⟩;go_wp2_with fail;go_ret;exact⟨by rw [HR.out];rfl,Below.refl _ _⟩
 . have CL:=qh (Qo0 s w hs);replace hR:R=(zQ7 s).2:=hR;have HR:=qh hR;clear hR;go_enter Tryz.func57,Tryz.ntmps57;go_wp2_with fail;refine CL.out.mono ?_;rintro e w1 ⟨v1,rfl,_,b1⟩;have HB1:=qh b1;clear b1;go_wp2_with fail;go_ret;exact⟨by rw [HR.out];rfl,HB1.out⟩
 . have CL:=qh ((XJ1 s w hs).mono λ _ _=>j67);replace hR:R=rgE s:=hR;rw [<-hR] at CL;clear hR;go_enter Tryz.func57,Tryz.ntmps57;go_wp2_with fail;refine CL.out.mono ?_;rintro e w1 ⟨v1,rfl,b1⟩;have HB1:=qh b1;clear b1;go_wp2_with fail;go_ret;exact⟨rfl,HB1.out⟩
 . replace hR:R=if s.size=0 then 0 else 1:=hR
   have hE:=isE s;by_cases h0:s.size=0
   focus
    rw [if_pos h0] at hR;rw [dT h0] at hE
   rotate_left
   focus
    rw [if_neg h0] at hR;rw [dF h0] at hE
   all_goals
    have HR:=qh hR;clear hR h0;go_enter Tryz.func57,Tryz.ntmps57;go_wp2_with fail;go_ret;exact⟨by rw [HR.out];rfl,Below.refl _ _⟩
 . replace hR:R=if 200<s.size then 2 else 0:=by
    rcases hop with rfl|rfl|rfl|rfl<;>exact hR
   by_cases h0:200<s.size
   focus
    rw [if_pos h0] at hR;have HR:=qh hR;have d1:(200:Int)<(s.size:Int):=by omega
   rotate_left
   focus
    rw [if_neg h0] at hR;have HR:=qh hR;have d1:¬(200:Int)<(s.size:Int):=by omega
   all_goals
    clear hR h0;rcases hop with rfl|rfl|rfl|rfl
    all_goals
     go_enter Tryz.func57,Tryz.ntmps57;go_wp2_with fail;go_ret;exact⟨by rw [HR.out];rfl,Below.refl _ _⟩
end
theorem yx2 {w:World}:ArgOk 57 YX5 w:=λ op s W _ hs h1 h2=>yQ1 op s W hs h1 h2
end Go.Proofs.YtngepacmgabmaaaGreatDoor
