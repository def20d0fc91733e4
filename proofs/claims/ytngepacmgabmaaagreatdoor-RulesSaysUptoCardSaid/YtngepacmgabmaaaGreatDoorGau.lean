/- Walk: wickref.Net. (printed by gen_netd.; Lists of nets; walks: nets.List, wickref .. -/
import Derived.Test.YtngepacmgabmaaaGreatDoorGat
namespace Go.Proofs.YtngepacmgabmaaaGreatDoor
open Go.RowKit
set_option linter.unusedVariables false
set_option linter.unusedSimpArgs false
theorem kU5 {b:Int} (h0:0<=b) (h1:b<=32):(KQ0 b:Int)=b:=by unfold KQ0;omega
theorem jI5 {a:Nat} {b:Int} (h0:0<=b) (h1:b<=32) (h:∀ j:Nat,(j:Int)<32-b->a.testBit j=false):a%2^(32-KQ0 b)=0:=
 (Kb9 a _).2 λ i hi=>h i (by have:=kU5 h0 h1;omega)
theorem Yf1 {a p:Nat} {b:Int} (h0:0<=b) (h1:b<=32) (hp:(p:Int)<32-b) (h:a.testBit p=true):¬a%2^(32-KQ0 b)=0:=λ e=>by
 have:=(Kb9 a _).1 e p (by have:=kU5 h0 h1;omega);rw [h] at this;cases this
section
variable (s:ByteArray) (w:World)
set_option maxRecDepth 100000 in
set_option maxHeartbeats 4000000 in
theorem xl1 (hs:s.size<=1048576):
 Calls Tryz.prog 123 #[.string s] w (X91 (KL4 s) w):=by
 obtain⟨R,hR⟩:∃ R,R=KL4 s:=⟨_,rfl⟩;rw [<-hR];have H1:=qh λ h=>hR.trans (k77 (s:=s) h)
 have H2:=qh λ h h2=>hR.trans (Jt7 (s:=s) h h2)
 have H3:=qh λ h h2 h3=>hR.trans (J83 (s:=s) h h2 h3)
 have H4:=qh λ a h h2 h3 h4=>hR.trans (qL6 (s:=s) (a:=a) h h2 h3 h4)
 have H5:=qh λ a h h2 h3 h4=>hR.trans (XT9 (s:=s) (a:=a) h h2 h3 h4)
 obtain⟨W,hW⟩:∃ W,w.alloc (.cells #[.int .u32 0,.int .i64 0] 169)=W:=⟨_,rfl⟩;have hZ:Nz w W:=by rw [<-hW];exact Nz.start w
 have hcz:=Jb0 s ⟨#[47]⟩;have CC:=xW6 s ⟨#[47]⟩ W (by omega) (by decide);obtain⟨c1,c2,c3,hc⟩:∃ c1 c2 c3,y27 s ⟨#[47]⟩=(c1,c2,c3):=⟨_,_,_,rfl⟩;rw [hc] at CC hcz;dsimp only at CC hcz;obtain⟨hz1,hz2⟩:=hcz;have HB:Hid (btS s=if c3=true then smN c2 32 else 32):=qh (by unfold btS slS;rw [hc]);have HPt:Hid (ptS s=pcs c1 ⟨#[46]⟩):=qh (by unfold ptS slS;rw [hc]);have CN:=qh λ w'=>jy2 c2 32 w' (by unfold maxLen;omega)
 have CS:=qh λ w'=>kK5 c1 ⟨#[46]⟩ w' (by omega) (by decide) (by decide)
 have CC:=qh CC;have HZ:=qh hZ;have hbd:=Ql8 c2 32 (by omega);obtain⟨b,hb⟩:∃ b,b=smN c2 32:=⟨_,rfl⟩;rw [<-hb] at hbd HB CN;obtain⟨hbd1,hbd2⟩:=hbd;clear hR hZ hc hb;cases c3 with
 |true=>
  have HBt:Hid (btS s=b):=qh (by rw [HB.out,if_pos rfl]);by_cases hb:b<0
  . have HR:=qh (H1.out (by rw [HBt.out];exact hb));have d1:decide (b<0)=true:=decide_eq_true hb;clear hb;go_enter Tryz.func123,Tryz.ntmps123;go_wp2_with fail;refine CC.out.mono ?_;rintro e w1 ⟨rfl,q1,hq1⟩;have hZ1:=HZ.out.step (by rw [hq1];exact below_drewN (Below.refl _ _) q1:Below W.heap.size W w1);have hgz:w.heap.size<w1.heap.size:=hZ1.lt;have hZ2:=hZ1.step ((Below.refl w1.heap.size w1).alloc (Nat.le_refl _) (.cells #[.int .u32 0,.int .i64 32] 169));have hK2:=Blk.new w1 169 #[.int .u32 0,.int .i64 32];clear hq1 hW CC HZ hZ1;go_upto_region 3 with fail;obtain⟨V,hV⟩:∃ V,w1.alloc (.cells #[.int .u32 0,.int .i64 32] 169)=V:=⟨_,rfl⟩;rw [hV] at hZ2 hK2⊢;clear hV;obtain⟨g,hg⟩:∃ g,w1.heap.size=g:=⟨_,rfl⟩;rw [hg] at hgz hK2⊢;clear hg;have HZ2:=qh hZ2;have HK2:=qh hK2;clear hZ2 hK2;go_wp2_with fail;refine(CN.out _).mono ?_;rintro e w2 ⟨rfl,q2,hq2⟩;have hb2:Below V.heap.size V w2:=(by rw [hq2];exact below_drewN (Below.refl _ _) q2);have hZ3:=HZ2.out.step hb2;have hK3:=HK2.out.below hb2 HK2.out.lt;obtain⟨m0,m1⟩:=Blk.c2 hK3;have mf:=Blk.frozen hK3 1;have hZ4:=hZ3.far (p:=⟨g,1,none⟩) hgz (.int .i64 b);have hK4:=hK3.set_ 1 (.int .i64 b);clear hq2 hb2 hZ3 hK3 HZ2 HK2;obtain⟨r0,r1,f0,f1⟩:=hZ4.facts;clear hK4;obtain⟨wz,hwz,hbz,z0,z1⟩:=hZ4.put (.int .u32 0) (.int .i64 0);go_wp2_with fail;rw [<-hwz];exact bodyPost_ret (v:= .tuple #[.agg #[.int .u32 0,.int .i64 0],.int .i64 3]) (by simp [results,Tryz.results123,go_sem,z0,z1]) rfl ⟨by rw [HR.out];rfl,hbz⟩
  . have d1:decide (b<0)=false:=decide_eq_false hb;go_enter Tryz.func123,Tryz.ntmps123;go_wp2_with fail;refine CC.out.mono ?_;rintro e w1 ⟨rfl,q1,hq1⟩;have hZ1:=HZ.out.step (by rw [hq1];exact below_drewN (Below.refl _ _) q1:Below W.heap.size W w1);have hgz:w.heap.size<w1.heap.size:=hZ1.lt;have hZ2:=hZ1.step ((Below.refl w1.heap.size w1).alloc (Nat.le_refl _) (.cells #[.int .u32 0,.int .i64 32] 169));have hK2:=Blk.new w1 169 #[.int .u32 0,.int .i64 32];clear hq1 hW CC HZ hZ1;go_upto_region 3 with fail;obtain⟨V,hV⟩:∃ V,w1.alloc (.cells #[.int .u32 0,.int .i64 32] 169)=V:=⟨_,rfl⟩;rw [hV] at hZ2 hK2⊢;clear hV;obtain⟨g,hg⟩:∃ g,w1.heap.size=g:=⟨_,rfl⟩;rw [hg] at hgz hK2⊢;clear hg;have HZ2:=qh hZ2;have HK2:=qh hK2;clear hZ2 hK2;go_wp2_with fail;refine(CN.out _).mono ?_;rintro e w2 ⟨rfl,q2,hq2⟩;have hb2:Below V.heap.size V w2:=(by rw [hq2];exact below_drewN (Below.refl _ _) q2);have hZ3:=HZ2.out.step hb2;have hK3:=HK2.out.below hb2 HK2.out.lt;obtain⟨m0,m1⟩:=Blk.c2 hK3;have mf:=Blk.frozen hK3 1;have hZ4:=hZ3.far (p:=⟨g,1,none⟩) hgz (.int .i64 b);have hK4:=hK3.set_ 1 (.int .i64 b);clear hq2 hb2 hZ3 hK3 HZ2 HK2;go_upto_region 7 with fail;obtain⟨w4,hw4⟩:∃ w4,w2.setCell ⟨g,1,none⟩ (.int .i64 b)=w4:=⟨_,rfl⟩;rw [hw4] at hZ4 hK4⊢;clear hw4 m0 m1 mf;have HZn:=qh hZ4;have HKn:Hid (Blk w4 g 169 #[.int .u32 0,.int .i64 b]):=qh hK4;clear hZ4 hK4;obtain⟨l,hl⟩:∃ l,l=pcs c1 ⟨#[46]⟩:=⟨_,rfl⟩;have hlm:=zN9 ⟨#[46]⟩ (by decide) c1.size c1 (Nat.le_refl _);have CSp:=CS.out w4;rw [<-hl] at CSp hlm;have HPl:Hid (ptS s=l):=qh (HPt.out.trans hl.symm);have CSp:=qh CSp;have HLM:=qh hlm;have hgn:g<w4.heap.size:=HKn.out.lt;clear hl hlm;go_wp2_with fail;refine CSp.out.mono ?_;rintro e w3 ⟨v,rfl,ho3,b3⟩;obtain⟨A,c,rfl⟩:=ho3.form;have hZ3:=HZn.out.step b3;have hK3:=HKn.out.below b3 hgn;clear b3 HZn HKn CSp;by_cases h4:l.length=4
    . have hne:((l.length:Int) !=4)=false:=(by rw [h4];rfl);obtain⟨gl,rfl,hgB,hgs,hgc,hcell⟩:=ho3.at_ (by omega);have HZ4:=qh hZ3;have HO4:=qh ho3;have HK4:=qh hK3;have hlt:g<gl:=(by omega);have H4L:=qh h4;have h4a:l.length<=4:=(by omega);have h4b:4<=l.length:=(by omega);have HA0:Hid (YY1 (l.drop 0) 0=YY1 l 0):=qh rfl;clear hcell ho3 hZ3 hK3 h4;go_wp2_with fail;go_loopw [9] (λ u wr=>∃ k a:Nat,u= .int .i64 (k:Int)/\k<=4/\Nz w wr/\Blk wr g 169 #[.int .u32 a,.int .i64 b]/\OS wr w4.heap.size (.slice (some ⟨gl,0,none⟩) l.length c) l/\Hid (a<256^k)/\Hid (YY1 (l.drop k) a=YY1 l 0)) (λ u _=>4-(intOf u).toNat)
      case atStart=>exact⟨0,0,rfl,by omega,HZ4.out,HK4.out,HO4.out,by show 0<256^0;decide,HA0.out⟩
      case round=>
       obtain⟨k,a,rfl,hk,hz,hkb,ho,HA,HF⟩:=hrel;obtain⟨n0,n1⟩:=Blk.c2 hkb;have nf:=Blk.frozen hkb 0;have HZr:=qh hz;have HKr:=qh hkb;have HOr:=qh ho;by_cases hkl:k<4
       . have ha:=KE9 HA.out (by omega);have i1:(k:Int)<(l.length:Int):=(by omega);obtain⟨x,hx⟩:∃ x,l[k]? =some x:=⟨l[k]'(by omega),List.getElem?_eq_getElem (by omega)⟩;obtain⟨g',hg',_,_,_,hcell⟩:=ho.at_ (by omega);injection hg' with hg';injection hg' with hg1 hg2 hg3;subst hg1
         have y0:wr.cell? ⟨gl,k,none⟩=some (.string x):=by
          have:=hcell k (by omega);rw [List.getElem?_eq_getElem (by omega)] at hx;injection hx with hx;rw [this,hx]
         have hxz:x.size<=1048576:=by
          have:=HLM.out x (List.mem_of_getElem? hx);omega
         have CX:=λ w'=>jy2 x 255 w' (by unfold maxLen;omega)
         have hxb:=Ql8 x 255 (by omega);obtain⟨N,hN⟩:∃ N,smN x 255=N:=⟨_,rfl⟩;have HXX:=qh hx;rw [hN] at CX hxb;have CX:=qh CX;obtain⟨nb1,nb2⟩:=hxb;clear hcell hx hz hkb ho;by_cases hn:N<0
         . have HR:=qh (H3.out (by rw [HBt.out];omega) (by rw [HPl.out];exact H4L.out) (by rw [HPl.out,<-HF.out];exact zC0 HXX.out (by omega)));have d1:decide (N<0)=true:=decide_eq_true hn;clear hn hN;go_wp2_with fail;refine(CX.out _).mono ?_;rintro e w5 ⟨rfl,q5,hq5⟩;have hZ5:=HZr.out.step (by rw [hq5];exact below_drewN (Below.refl _ _) q5:Below wr.heap.size wr w5);obtain⟨r0,r1,f0,f1⟩:=hZ5.facts;have HZ5:=qh hZ5;clear hq5 hZ5;obtain⟨wz,hwz,hbz,z0,z1⟩:=HZ5.out.put (.int .u32 0) (.int .i64 0);go_wp2_with fail;rw [<-hwz];exact bodyPost_ret (v:= .tuple #[.agg #[.int .u32 0,.int .i64 0],.int .i64 3]) (by simp [results,Tryz.results123,go_sem,z0,z1]) rfl ⟨by rw [HR.out];rfl,hbz⟩
         . obtain⟨n,rfl⟩:=Int.eq_ofNat_of_zero_le (show 0<=N by omega);have d1:decide ((n:Int)<0)=false:=decide_eq_false hn;have hn255:n<256:=(by omega);have HF2:Hid (YY1 (l.drop (k+1)) (a*256+n)=YY1 l 0):=qh ((YL2 HXX.out hN).symm.trans HF.out);have HA2:=qh (Xe2 HA.out hn255);have js:IntKind.u32.wrap ((a:Int)*256)=(a:Int)*256:=IntWalk.u32_in _ ⟨by omega,by omega⟩;have js2:(a:Int)*256%4294967296=(a:Int)*256:=(by omega);have jn:IntKind.u32.wrap (n:Int)=(n:Int):=IntWalk.u32_in _ ⟨by omega,by omega⟩;have jn2:(n:Int)%4294967296=(n:Int):=(by omega);have ja:IntKind.u32.wrap ((a:Int)*256+(n:Int))=((a*256+n:Nat):Int):=(by rw [IntWalk.u32_in _ ⟨by omega,by omega⟩];omega);have ja2:((a:Int)*256+(n:Int))%4294967296=((a*256+n:Nat):Int):=(by omega);clear hn hN;go_wp2_with fail;refine(CX.out _).mono ?_;rintro e w5 ⟨rfl,q5,hq5⟩;have b5:Below wr.heap.size wr w5:=(by rw [hq5];exact below_drewN (Below.refl _ _) q5);have hZ5:=HZr.out.step b5;have hK5:=HKr.out.below b5 HKr.out.lt;have hO5:=HOr.out.kept b5;have n0':=Blk.e0 hK5;have nf':=Blk.frozen hK5 0;have hZ6:=hZ5.far (p:=⟨g,0,none⟩) hgz (.int .u32 ((a*256+n:Nat):Int));have hK6:=hK5.set_ 0 (.int .u32 ((a*256+n:Nat):Int))
           have hO6:=hO5.far (p:=⟨g,0,none⟩) (λ g' hg=>by
            simp only [Value.ownBlock,Option.some.injEq] at hg;show g'≠g;omega) (.int .u32 ((a*256+n:Nat):Int))
           have HZ6:=qh hZ6;have HK6:=qh hK6;have HO6:=qh hO6;clear hq5 b5 hZ5 hK5 hO5 hZ6 hK6 hO6;go_wp2_with fail;go_roundw
           case rel=>exact⟨k+1,a*256+n,by go_num,by omega,HZ6.out,HK6.out,HO6.out,HA2,HF2⟩
           case measure=>simp [intOf];omega
       . obtain rfl:k=4:=(by omega);have ha:=Qs5 HA.out (by omega);have HF4:Hid (YY1 l 0=some a):=qh (by rw [<-HF.out,List.drop_eq_nil_of_le (by omega)];rfl);have b0:(0:Int)<=b:=(by omega);have b32:(b:Int)<=32:=(by omega);have HR4:=qh fun(h:a%2^(32-KQ0 b)=0)=>H4.out a (by rw [HBt.out];omega) (by rw [HPl.out];exact H4L.out) (by rw [HPl.out];exact HF4.out) (by rw [HBt.out];exact h)
         have HR5:=qh fun(h:¬a%2^(32-KQ0 b)=0)=>H5.out a (by rw [HBt.out];omega) (by rw [HPl.out];exact H4L.out) (by rw [HPl.out];exact HF4.out) (by rw [HBt.out];exact h)
         clear hz hkb ho;go_wp2_with fail;go_loopw [11] (λ u wr=>∃ k:Nat,u= .int .i64 (k:Int)/\k<=32/\(b:Int)<=k/\Nz w wr/\Blk wr g 169 #[.int .u32 a,.int .i64 b]/\Hid (∀ j:Nat,32-k<=j->(j:Int)<32-b->a.testBit j=false)) (λ u _=>32-(intOf u).toNat)
         case atStart=>exact⟨(b:Int).toNat,by go_num,by omega,by omega,HZr.out,HKr.out,λ j h1 h2=>absurd h2 (by omega)⟩
         case round=>
          obtain⟨k,rfl,hk,hbk,hz,hkb,HS⟩:=hrel;obtain⟨n0,n1⟩:=Blk.c2 hkb;obtain⟨r0,r1,f0,f1⟩:=hz.facts;have HZr:=qh hz;have HKr:=qh hkb;clear hkb;by_cases hkl:k<32
          . have d0:decide ((k:Int)<32)=true:=decide_eq_true (by omega);have d0':decide (k<32)=true:=decide_eq_true hkl;have j1:IntKind.i64.wrap ((31:Int)-(k:Int))=(31:Int)-(k:Int):=IntWalk.i64_in _ (by omega);have i1:(0:Int)<=(31:Int)-(k:Int):=(by omega);obtain⟨p,hp⟩:∃ p:Nat,p=31-k:=⟨_,rfl⟩;have j2:((31:Int)-(k:Int)).toNat=p:=(by omega);have hpk:=qh hp;clear hp;have hps:p<32:=(by have:=hpk.out;omega);obtain⟨x,hx⟩:∃ x,a.testBit p=x:=⟨_,rfl⟩;have ex:=KA5 hx;cases x with
            |true=>
             have HR:=qh (HR5.out (Yf1 b0 b32 (by have:=hpk.out;omega) hx));clear hx;obtain⟨wz,hwz,hbz,z0,z1⟩:=hz.put (.int .u32 0) (.int .i64 0);go_wp2_with fail;rw [<-hwz];exact bodyPost_ret (v:= .tuple #[.agg #[.int .u32 0,.int .i64 0],.int .i64 4]) (by simp [results,Tryz.results123,go_sem,z0,z1]) rfl ⟨by rw [HR.out];rfl,hbz⟩
            |false=>
             have HS2:Hid (∀ j:Nat,32-(k+1)<=j->(j:Int)<32-b->a.testBit j=false):=λ j h1 h2=>by
              by_cases e:j=p
              . rw [e,hx]
              . exact HS.out j (by have:=hpk.out;omega) h2
             clear hx hz;go_wp2_with fail;go_roundw
             case rel=>exact⟨k+1,by go_num,by omega,by omega,HZr.out,HKr.out,HS2⟩
             case measure=>simp [intOf];omega
          . obtain rfl:k=32:=(by omega);have HR:=qh (HR4.out (jI5 b0 b32 λ j h=>HS.out j (by omega) h));obtain⟨wz,hwz,hbz,z0,z1⟩:=hz.put (.int .u32 a) (.int .i64 b);clear hz;go_wp2_with fail;rw [<-hwz];exact bodyPost_ret (v:= .tuple #[.agg #[.int .u32 a,.int .i64 b],.int .i64 0]) (by simp [results,Tryz.results123,go_sem,z0,z1]) rfl ⟨by rw [HR.out,HBt.out],hbz⟩
    . have HR:=qh (H2.out (by rw [HBt.out];omega) (by rw [HPl.out];exact h4));have hne:((l.length:Int) !=4)=true:=(by rw [bne_iff_ne];omega);obtain⟨r0,r1,f0,f1⟩:=hZ3.facts;clear ho3 h4;obtain⟨wz,hwz,hbz,z0,z1⟩:=hZ3.put (.int .u32 0) (.int .i64 0);go_wp2_with fail;rw [<-hwz];exact bodyPost_ret (v:= .tuple #[.agg #[.int .u32 0,.int .i64 0],.int .i64 3]) (by simp [results,Tryz.results123,go_sem,z0,z1]) rfl ⟨by rw [HR.out];rfl,hbz⟩
 |false=>
  have HBt:Hid (btS s=32):=qh (by rw [HB.out,if_neg (by decide)]);go_enter Tryz.func123,Tryz.ntmps123;go_wp2_with fail;refine CC.out.mono ?_;rintro e w1 ⟨rfl,q1,hq1⟩;have hZ1:=HZ.out.step (by rw [hq1];exact below_drewN (Below.refl _ _) q1:Below W.heap.size W w1);have hgz:w.heap.size<w1.heap.size:=hZ1.lt;have hZ2:=hZ1.step ((Below.refl w1.heap.size w1).alloc (Nat.le_refl _) (.cells #[.int .u32 0,.int .i64 32] 169));have hK2:=Blk.new w1 169 #[.int .u32 0,.int .i64 32];clear hq1 hW CC HZ hZ1;go_upto_region 3 with fail;obtain⟨V,hV⟩:∃ V,w1.alloc (.cells #[.int .u32 0,.int .i64 32] 169)=V:=⟨_,rfl⟩;rw [hV] at hZ2 hK2⊢;clear hV;obtain⟨g,hg⟩:∃ g,w1.heap.size=g:=⟨_,rfl⟩;rw [hg] at hgz hK2⊢;clear hg;have HZ2:=qh hZ2;have HK2:=qh hK2;clear hZ2 hK2;go_upto_region 7 with fail;have HZn:=HZ2;have HKn:=HK2;clear HZ2 HK2;obtain⟨l,hl⟩:∃ l,l=pcs c1 ⟨#[46]⟩:=⟨_,rfl⟩;have hlm:=zN9 ⟨#[46]⟩ (by decide) c1.size c1 (Nat.le_refl _);have CSp:=CS.out V;rw [<-hl] at CSp hlm;have HPl:Hid (ptS s=l):=qh (HPt.out.trans hl.symm);have CSp:=qh CSp;have HLM:=qh hlm;have hgn:g<V.heap.size:=HKn.out.lt;clear hl hlm;go_wp2_with fail;refine CSp.out.mono ?_;rintro e w3 ⟨v,rfl,ho3,b3⟩;obtain⟨A,c,rfl⟩:=ho3.form;have hZ3:=HZn.out.step b3;have hK3:=HKn.out.below b3 hgn;clear b3 HZn HKn CSp;by_cases h4:l.length=4
  . have hne:((l.length:Int) !=4)=false:=(by rw [h4];rfl);obtain⟨gl,rfl,hgB,hgs,hgc,hcell⟩:=ho3.at_ (by omega);have HZ4:=qh hZ3;have HO4:=qh ho3;have HK4:=qh hK3;have hlt:g<gl:=(by omega);have H4L:=qh h4;have h4a:l.length<=4:=(by omega);have h4b:4<=l.length:=(by omega);have HA0:Hid (YY1 (l.drop 0) 0=YY1 l 0):=qh rfl;clear hcell ho3 hZ3 hK3 h4;go_wp2_with fail;go_loopw [9] (λ u wr=>∃ k a:Nat,u= .int .i64 (k:Int)/\k<=4/\Nz w wr/\Blk wr g 169 #[.int .u32 a,.int .i64 32]/\OS wr V.heap.size (.slice (some ⟨gl,0,none⟩) l.length c) l/\Hid (a<256^k)/\Hid (YY1 (l.drop k) a=YY1 l 0)) (λ u _=>4-(intOf u).toNat)
    case atStart=>exact⟨0,0,rfl,by omega,HZ4.out,HK4.out,HO4.out,by show 0<256^0;decide,HA0.out⟩
    case round=>
     obtain⟨k,a,rfl,hk,hz,hkb,ho,HA,HF⟩:=hrel;obtain⟨n0,n1⟩:=Blk.c2 hkb;have nf:=Blk.frozen hkb 0;have HZr:=qh hz;have HKr:=qh hkb;have HOr:=qh ho;by_cases hkl:k<4
     . have ha:=KE9 HA.out (by omega);have i1:(k:Int)<(l.length:Int):=(by omega);obtain⟨x,hx⟩:∃ x,l[k]? =some x:=⟨l[k]'(by omega),List.getElem?_eq_getElem (by omega)⟩;obtain⟨g',hg',_,_,_,hcell⟩:=ho.at_ (by omega);injection hg' with hg';injection hg' with hg1 hg2 hg3;subst hg1
       have y0:wr.cell? ⟨gl,k,none⟩=some (.string x):=by
        have:=hcell k (by omega);rw [List.getElem?_eq_getElem (by omega)] at hx;injection hx with hx;rw [this,hx]
       have hxz:x.size<=1048576:=by
        have:=HLM.out x (List.mem_of_getElem? hx);omega
       have CX:=λ w'=>jy2 x 255 w' (by unfold maxLen;omega)
       have hxb:=Ql8 x 255 (by omega);obtain⟨N,hN⟩:∃ N,smN x 255=N:=⟨_,rfl⟩;have HXX:=qh hx;rw [hN] at CX hxb;have CX:=qh CX;obtain⟨nb1,nb2⟩:=hxb;clear hcell hx hz hkb ho;by_cases hn:N<0
       . have HR:=qh (H3.out (by rw [HBt.out];omega) (by rw [HPl.out];exact H4L.out) (by rw [HPl.out,<-HF.out];exact zC0 HXX.out (by omega)));have d1:decide (N<0)=true:=decide_eq_true hn;clear hn hN;go_wp2_with fail;refine(CX.out _).mono ?_;rintro e w5 ⟨rfl,q5,hq5⟩;have hZ5:=HZr.out.step (by rw [hq5];exact below_drewN (Below.refl _ _) q5:Below wr.heap.size wr w5);obtain⟨r0,r1,f0,f1⟩:=hZ5.facts;have HZ5:=qh hZ5;clear hq5 hZ5;obtain⟨wz,hwz,hbz,z0,z1⟩:=HZ5.out.put (.int .u32 0) (.int .i64 0);go_wp2_with fail;rw [<-hwz];exact bodyPost_ret (v:= .tuple #[.agg #[.int .u32 0,.int .i64 0],.int .i64 3]) (by simp [results,Tryz.results123,go_sem,z0,z1]) rfl ⟨by rw [HR.out];rfl,hbz⟩
       . obtain⟨n,rfl⟩:=Int.eq_ofNat_of_zero_le (show 0<=N by omega);have d1:decide ((n:Int)<0)=false:=decide_eq_false hn;have hn255:n<256:=(by omega);have HF2:Hid (YY1 (l.drop (k+1)) (a*256+n)=YY1 l 0):=qh ((YL2 HXX.out hN).symm.trans HF.out);have HA2:=qh (Xe2 HA.out hn255);have js:IntKind.u32.wrap ((a:Int)*256)=(a:Int)*256:=IntWalk.u32_in _ ⟨by omega,by omega⟩;have js2:(a:Int)*256%4294967296=(a:Int)*256:=(by omega);have jn:IntKind.u32.wrap (n:Int)=(n:Int):=IntWalk.u32_in _ ⟨by omega,by omega⟩;have jn2:(n:Int)%4294967296=(n:Int):=(by omega);have ja:IntKind.u32.wrap ((a:Int)*256+(n:Int))=((a*256+n:Nat):Int):=(by rw [IntWalk.u32_in _ ⟨by omega,by omega⟩];omega);have ja2:((a:Int)*256+(n:Int))%4294967296=((a*256+n:Nat):Int):=(by omega);clear hn hN;go_wp2_with fail;refine(CX.out _).mono ?_;rintro e w5 ⟨rfl,q5,hq5⟩;have b5:Below wr.heap.size wr w5:=(by rw [hq5];exact below_drewN (Below.refl _ _) q5);have hZ5:=HZr.out.step b5;have hK5:=HKr.out.below b5 HKr.out.lt;have hO5:=HOr.out.kept b5;have n0':=Blk.e0 hK5;have nf':=Blk.frozen hK5 0;have hZ6:=hZ5.far (p:=⟨g,0,none⟩) hgz (.int .u32 ((a*256+n:Nat):Int));have hK6:=hK5.set_ 0 (.int .u32 ((a*256+n:Nat):Int))
         have hO6:=hO5.far (p:=⟨g,0,none⟩) (λ g' hg=>by
          simp only [Value.ownBlock,Option.some.injEq] at hg;show g'≠g;omega) (.int .u32 ((a*256+n:Nat):Int))
         have HZ6:=qh hZ6;have HK6:=qh hK6;have HO6:=qh hO6;clear hq5 b5 hZ5 hK5 hO5 hZ6 hK6 hO6;go_wp2_with fail;go_roundw
         case rel=>exact⟨k+1,a*256+n,by go_num,by omega,HZ6.out,HK6.out,HO6.out,HA2,HF2⟩
         case measure=>simp [intOf];omega
     . obtain rfl:k=4:=(by omega);have ha:=Qs5 HA.out (by omega);have HF4:Hid (YY1 l 0=some a):=qh (by rw [<-HF.out,List.drop_eq_nil_of_le (by omega)];rfl);have b0:(0:Int)<=32:=(by omega);have b32:(32:Int)<=32:=(by omega);have HR4:=qh fun(h:a%2^(32-KQ0 32)=0)=>H4.out a (by rw [HBt.out];omega) (by rw [HPl.out];exact H4L.out) (by rw [HPl.out];exact HF4.out) (by rw [HBt.out];exact h)
       have HR5:=qh fun(h:¬a%2^(32-KQ0 32)=0)=>H5.out a (by rw [HBt.out];omega) (by rw [HPl.out];exact H4L.out) (by rw [HPl.out];exact HF4.out) (by rw [HBt.out];exact h)
       clear hz hkb ho;go_wp2_with fail;go_loopw [11] (λ u wr=>∃ k:Nat,u= .int .i64 (k:Int)/\k<=32/\(32:Int)<=k/\Nz w wr/\Blk wr g 169 #[.int .u32 a,.int .i64 32]/\Hid (∀ j:Nat,32-k<=j->(j:Int)<32-32->a.testBit j=false)) (λ u _=>32-(intOf u).toNat)
       case atStart=>exact⟨(32:Int).toNat,by go_num,by omega,by omega,HZr.out,HKr.out,λ j h1 h2=>absurd h2 (by omega)⟩
       case round=>
        obtain⟨k,rfl,hk,hbk,hz,hkb,HS⟩:=hrel;obtain⟨n0,n1⟩:=Blk.c2 hkb;obtain⟨r0,r1,f0,f1⟩:=hz.facts;have HZr:=qh hz;have HKr:=qh hkb;clear hkb;by_cases hkl:k<32
        . exact absurd hbk (by omega)
        . obtain rfl:k=32:=(by omega);have HR:=qh (HR4.out (jI5 b0 b32 λ j h=>HS.out j (by omega) h));obtain⟨wz,hwz,hbz,z0,z1⟩:=hz.put (.int .u32 a) (.int .i64 32);clear hz;go_wp2_with fail;rw [<-hwz];exact bodyPost_ret (v:= .tuple #[.agg #[.int .u32 a,.int .i64 32],.int .i64 0]) (by simp [results,Tryz.results123,go_sem,z0,z1]) rfl ⟨by rw [HR.out,HBt.out],hbz⟩
  . have HR:=qh (H2.out (by rw [HBt.out];omega) (by rw [HPl.out];exact h4));have hne:((l.length:Int) !=4)=true:=(by rw [bne_iff_ne];omega);obtain⟨r0,r1,f0,f1⟩:=hZ3.facts;clear ho3 h4;obtain⟨wz,hwz,hbz,z0,z1⟩:=hZ3.put (.int .u32 0) (.int .i64 0);go_wp2_with fail;rw [<-hwz];exact bodyPost_ret (v:= .tuple #[.agg #[.int .u32 0,.int .i64 0],.int .i64 3]) (by simp [results,Tryz.results123,go_sem,z0,z1]) rfl ⟨by rw [HR.out];rfl,hbz⟩
end
theorem ZM3:(Tryz.prog.info? 169).map (λ i=>(i.zero,i.size,i.bytes))=some (some (.agg #[.int .u32 0,.int .i64 0]),2,16):=by kernel_rfl
def qh1 (l:List (Nat×Int)):List Value:=l.flatMap λ n=> [.int .u32 n.1,.int .i64 n.2]
theorem JW5 (l m:List (Nat×Int)):qh1 (l++m)=qh1 l++qh1 m:=List.flatMap_append
theorem qw9 (i:Nat×Int):qh1 [i]= [.int .u32 i.1,.int .i64 i.2]:=by simp [qh1]
theorem ka1 {l:List (Nat×Int)} {k:Nat} {i:Nat×Int} (hk:l[k]? =some i) {j:Nat} (hj:j<2):(qh1 l)[k*2+j]? = [Value.int .u32 i.1,Value.int .i64 i.2][j]? :=by
 induction l generalizing k with
 |nil=>simp at hk
 |cons a l ih=>
  rw [show a::l= [a]++l from rfl,JW5,qw9];cases k with
  |zero=>
   simp at hk;subst hk;rw [List.getElem?_append_left (by simp;omega),Nat.zero_mul,Nat.zero_add]
  |succ k=>
   rw [List.getElem?_append_right (by simp;omega)];have e:(k+1)*2+j- [Value.int .u32 a.1,Value.int .i64 a.2].length=k*2+j:=(by simp;omega);rw [e];exact ih (by simpa using hk)
def ON (w:World) (B:Nat) (v:Value) (l:List (Nat×Int)):Prop:=w.ownsRow B 169 2 v l.length (qh1 l)
section
variable {w w':World} {B:Nat} {v v':Value} {l:List (Nat×Int)}
theorem ON.nil (w:World) (B:Nat):ON w B (.slice none 0 0) []:=World.ownsRow_nil _ _ _ _
theorem ON.form (h:ON w B v l):∃ A c,v= .slice A l.length c:=by
 rcases h.2 with⟨rfl,h2⟩|⟨g,c,cur,rfl,_⟩
 . exact⟨none,0,by rw [h2]⟩
 . exact⟨_,_,rfl⟩
theorem ON.drewN (h:ON w B v l) (n:Nat):ON (w.drewN n) B v l:=h
theorem ON.mono {B':Nat} (h:ON w B v l) (hB:B'<=B):ON w B' v l:=by
 refine⟨h.1,?_⟩;rcases h.2 with h2|⟨g,cap,cur,e1,e2,e3⟩
 . exact .inl h2
 . exact .inr ⟨g,cap,cur,e1,Nat.le_trans hB e2,e3⟩
theorem ON.kept (h:ON w B v l) (hb:Below w.heap.size w w'):ON w' B v l:=by
 refine World.ownsRow.kept (row:=none) h ⟨hb.os,hb.tape,hb.output,hb.size,λ k hk _=>hb.block k hk⟩ ?_;cases v.ownBlock<;>simp
theorem ON.at_ {A:Option Addr} {c:Nat} (h:ON w B (.slice A l.length c) l) {k:Nat} {i:Nat×Int} (hk:l[k]? =some i):∃ g,A=some ⟨g,0,none⟩/\w.cell? ⟨g,k*2,none⟩=some (.int .u32 i.1)/\w.cell? ⟨g,k*2+1,none⟩=some (.int .i64 i.2):=by
 have hkl:=(List.getElem?_eq_some_iff.1 hk).1;rcases h.2 with⟨_,h2⟩|⟨g,c',cur,e,hb,hh,h3,h4,h5⟩
 . omega
 . injection e with e1 e2 e3;subst e1 e3;refine⟨g,rfl,?_,?_⟩
   . rw [World.ownsRow.cellAt h (k*2) (by omega)];have:=ka1 hk (show 0<2 by omega);simpa using this
   . rw [World.ownsRow.cellAt h (k*2+1) (by omega)];have:=ka1 hk (show 1<2 by omega);simpa using this
theorem QZ7 {ops:Array Oper} {rest:List Oper} {o:Oper} {a:Act} {Q:Exit->Act->World->Prop} (hgd:o.guard=none) (s x:Operand)
 (ho:o.op= .call {callee:= .builtin .append,args:=#[s,x],argTypes:=#[135,135]})
 (h:ON w B v l) (hs:a.eval s=v) (i:Nat×Int) {N:Nat} (hx:a.eval x= .slice (some ⟨N,0,none⟩) 1 1) (hN:N=w.heap.size) (hlen:l.length<=1000000000) (hB:B<=w.heap.size)
 (hK:∀ v' w',ON w' B v' (l++ [i])->Grew w w' v v'->Below B w w'->wpList Tryz.prog ops Q rest (a.put o.dst v') w'):
 wpList Tryz.prog ops Q (o::rest) a (w.alloc (.cells #[.int .u32 i.1,.int .i64 i.2] 169)):=by
 subst hN;obtain⟨i0,hi0,hz0,hz1,hz2⟩:=info_parts ZM3
 exact zM8 (P:=Tryz.prog) (Q:=Q) (rest:=rest) (ops:=ops) hgd s x ho Tryz.underlying135 hi0 hz0 hz1 hz2 rfl (by decide) h hs [.int .u32 i.1,.int .i64 i.2] 1 1 hx rfl (by
  intro u hu;simp only [List.mem_cons,List.not_mem_nil,or_false] at hu;rcases hu with rfl|rfl<;>rfl) (by unfold maxLen;omega) (by omega) hB λ v' w' h2 h3=>hK v' w' (by unfold ON;rw [List.length_append,JW5,qw9];exact h2) h3 (h3.below hB (Kw5 h))
end
def ZG5:List ByteArray->List (Nat×Int)->List (Nat×Int)×Int
 | [],acc=>(acc,0)
 |x::l,acc=>if (KL4 x).2.2=0 then ZG5 l (acc++ [((KL4 x).1,(KL4 x).2.1)]) else ([],(KL4 x).2.2)
def zQ7 (s:ByteArray):List (Nat×Int)×Int:=if 30<(pcs s ⟨#[44]⟩).length then ([],2) else ZG5 (pcs s ⟨#[44]⟩) []
theorem kF1 {s:ByteArray} (h:30<(pcs s ⟨#[44]⟩).length):zQ7 s=([],2):=by unfold zQ7;rw [if_pos h]
theorem Ys4 {s:ByteArray} (h:¬30<(pcs s ⟨#[44]⟩).length):zQ7 s=ZG5 (pcs s ⟨#[44]⟩) []:=by unfold zQ7;rw [if_neg h]
theorem KT8 {l:List ByteArray} {acc:List (Nat×Int)} {k a:Nat} {b:Int} {x:ByteArray} (hx:l[k]? =some x) (h:KL4 x=(a,b,0)):ZG5 (l.drop k) acc=ZG5 (l.drop (k+1)) (acc++ [(a,b)]):=by
 obtain⟨hk,rfl⟩:=List.getElem?_eq_some_iff.1 hx;rw [List.drop_eq_getElem_cons hk,ZG5,h,if_pos rfl]
theorem kx1 {l:List ByteArray} {acc:List (Nat×Int)} {k a:Nat} {b e:Int} {x:ByteArray} (hx:l[k]? =some x) (h:KL4 x=(a,b,e)) (he:e≠0):ZG5 (l.drop k) acc=([],e):=by
 obtain⟨hk,rfl⟩:=List.getElem?_eq_some_iff.1 hx;rw [List.drop_eq_getElem_cons hk,ZG5,h,if_neg he]
def jX5 (R:List (Nat×Int)×Int) (w:World) (e:Ending) (w':World):Prop:=∃ v,e= .returned (.tuple #[v,.int .i64 R.2])/\ON w' w.heap.size v R.1/\Below w.heap.size w w'
theorem netSp (s:ByteArray) (m:Int) (w:World) (hs:s.size<=1048576) (hm:w.cell? ⟨4,0,none⟩=some (.int .i64 m)):
 Calls Tryz.prog 13 #[.string s,.string ⟨#[44]⟩] w λ e w'=>∃ v,e= .returned v/\OS w' w.heap.size v (pcs s ⟨#[44]⟩)/\Below w.heap.size w w':=
 (qQ5 s ⟨#[44]⟩ m w hs hm (by decide)).mono λ e w' h=>⟨_,h.1,h.2.1,h.2.2⟩
section
variable (s:ByteArray) (m:Int) (w:World)
set_option maxRecDepth 100000 in
set_option maxHeartbeats 4000000 in
theorem qX5 (hs:s.size<=1048576) (hm:w.cell? ⟨4,0,none⟩=some (.int .i64 m)):
 Calls Tryz.prog 106 #[.string s] w (jX5 (zQ7 s) w):=by
 obtain⟨R,hR⟩:∃ R,R=zQ7 s:=⟨_,rfl⟩;rw [<-hR];have CS:=netSp s m w hs hm;have hlm:=zN9 ⟨#[44]⟩ (by decide) s.size s (Nat.le_refl _);have H1:=qh λ h=>hR.trans (kF1 (s:=s) h)
 have H2:=qh λ h=>hR.trans (Ys4 (s:=s) h)
 have hl0:0<(pcs s ⟨#[44]⟩).length:=Qw2 _ _ (by decide);obtain⟨l,hl⟩:∃ l,l=pcs s ⟨#[44]⟩:=⟨_,rfl⟩;rw [<-hl] at CS hlm H1 H2 hl0;have HLM:=qh hlm;have CS:=qh CS;have CP:=qh λ x w' (hx:x∈l) (hb:Below w.heap.size w w')=>qC5 x m w' (by have:=hlm x hx;omega) ((hb.cell (p:=⟨4,0,none⟩) (World.block_lt_of_cell? _ _ hm)).trans hm)
 clear hR hl hlm;go_enter Tryz.func106,Tryz.ntmps106;go_wp2_with fail;refine CS.out.mono ?_;rintro e w1 ⟨v1,rfl,ho,b1⟩;obtain⟨A0,c0,rfl⟩:=ho.form;have hBw:=ho.mono (Nat.le_refl _);obtain⟨g,rfl,hg0,hg1,hg2,hcell⟩:=ho.at_ hl0;have HO:=qh ho;have HB1:=qh b1;clear ho b1 CS hBw hcell hg2;by_cases h30:30<l.length
 . have HR:=qh (H1.out h30);have d1:decide ((30:Int)<(l.length:Int))=true:=decide_eq_true (by omega);have d1':decide (30<l.length)=true:=decide_eq_true h30;clear h30;go_wp2_with fail;go_ret2;exact⟨.slice none 0 0,by rw [HR.out];rfl,by rw [HR.out];exact ON.nil _ _,HB1.out⟩
 . have HR:=qh (H2.out h30);have d1:decide ((30:Int)<(l.length:Int))=false:=decide_eq_false (by omega);have d1':decide (30<l.length)=false:=decide_eq_false h30;go_wp2_with fail;go_loopw [5,17] (λ v u wr=>∃ (k:Nat) (acc:List (Nat×Int)),u= .int .i64 (k:Int)/\k<=l.length/\acc.length<=k/\ON wr w1.heap.size v acc/\Below w1.heap.size w1 wr/\Hid (ZG5 (l.drop k) acc=R)) (λ _ u _=>l.length-(intOf u).toNat)
   case atStart=>exact⟨0,[],rfl,by omega,by simp,ON.nil _ _,Below.refl _ _,qh HR.out.symm⟩
   case round=>
    clear HR;obtain⟨k,acc,rfl,hk,hak,hn,hb,HF⟩:=hrel;have HN:=qh hn;have HB:=qh hb;obtain⟨A1,c1,rfl⟩:=hn.form;by_cases hkl:k<l.length
    . have k1:(k:Int)<(l.length:Int):=(by omega);obtain⟨x,hx⟩:∃ x,l[k]? =some x:=⟨l[k],List.getElem?_eq_getElem hkl⟩;obtain⟨g',hg',_,_,_,hcell⟩:=(HO.out.kept hb).at_ hl0;injection hg' with hg';injection hg' with hg2 hg3 hg4;subst hg2
      have y0:wr.cell? ⟨g,k,none⟩=some (.string x):=by
       have:=hcell k hkl;rw [List.getElem?_eq_getElem hkl] at hx;injection hx with hx;rw [this,hx]
      have CX:=CP.out x wr (List.mem_of_getElem? hx) (HB1.out.trans (hb.mono HB1.out.size));obtain⟨a,b,er,hre⟩:∃ a b er,KL4 x=(a,b,er):=⟨_,_,_,rfl⟩;rw [hre] at CX;have HX:=qh hx;have HRE:=qh hre;have CX:=qh CX;clear hcell hx hre hn hb;by_cases he:er=0
      . subst he;have HF2:Hid (ZG5 (l.drop (k+1)) (acc++ [(a,b)])=R):=qh ((KT8 HX.out HRE.out).symm.trans HF.out);go_wp2_with fail;refine CX.out.mono ?_;rintro e w2 ⟨rfl,b2⟩;have HN2:=qh (HN.out.kept b2);have hb2:=HB.out.trans (b2.mono HB.out.size);have b3:=(Below.refl w2.heap.size w2).alloc (Nat.le_refl _) (.cells #[.int .u32 a,.int .i64 b] 169);have HN3:=qh (HN2.out.kept b3);have HB3:=qh (hb2.trans (b3.mono hb2.size));have hk3:=Blk.new w2 169 #[.int .u32 a,.int .i64 b];clear b2 hb2 b3;go_upto_region 9 with fail;obtain⟨w3,hw3⟩:∃ w3,w2.alloc (.cells #[.int .u32 a,.int .i64 b] 169)=w3:=⟨_,rfl⟩;rw [hw3] at HN3 HB3 hk3⊢;obtain⟨n0,n1⟩:=Blk.c2 hk3;clear hw3 hk3;go_wp2_with (at_builtin;refine QZ7 rfl (.tmp 29) (.tmp 31) rfl HN3.out rfl (a,b) rfl rfl (by omega) HB3.out.size ?_;intro v5 w5 ho5 _ hb5);have HN5:=qh ho5;have HB5:=qh (HB3.out.trans hb5);clear ho5 hb5;go_wp2_with fail;go_roundw
        case rel=>exact⟨k+1,acc++ [(a,b)],by go_num,by omega,by rw [List.length_append,List.length_singleton];omega,HN5.out,HB5.out,HF2⟩
        case measure=>simp [intOf];omega
      . have HF2:Hid (([],er)=R):=qh ((kx1 HX.out HRE.out he).symm.trans HF.out);have d2:(er !=0)=true:=(by rw [bne_iff_ne];exact he);clear he;go_wp2_with fail;refine CX.out.mono ?_;rintro e w2 ⟨rfl,b2⟩;have hb2:=HB.out.trans (b2.mono HB.out.size);have hb3:=HB1.out.trans (hb2.mono HB1.out.size);have HBz:=qh (hb3.alloc hb3.size (.cells #[.int .u32 a,.int .i64 b] 169));clear b2 hb2 hb3;go_wp2_with fail;go_ret2;exact⟨.slice none 0 0,by rw [<-HF2.out];rfl,by rw [<-HF2.out];exact ON.nil _ _,HBz.out⟩
    . obtain rfl:k=l.length:=(by omega);have HF2:Hid ((acc,0)=R):=qh (by rw [<-HF.out,List.drop_length];rfl);clear hn hb;go_wp2_with fail;go_ret2;exact⟨.slice A1 acc.length c1,by rw [<-HF2.out];rfl,by rw [<-HF2.out];exact HN.out.mono HB1.out.size,HB1.out.trans (HB.out.mono HB1.out.size)⟩
set_option maxRecDepth 100000 in
set_option maxHeartbeats 4000000 in
theorem Qo0 (hs:s.size<=1048576):
 Calls Tryz.prog 93 #[.string s] w (jX5 (zQ7 s) w):=by
 obtain⟨R,hR⟩:∃ R,R=zQ7 s:=⟨_,rfl⟩;rw [<-hR];have CS:=kK5 s ⟨#[44]⟩ w hs (by decide) (by decide);have hlm:=zN9 ⟨#[44]⟩ (by decide) s.size s (Nat.le_refl _);have H1:=qh λ h=>hR.trans (kF1 (s:=s) h)
 have H2:=qh λ h=>hR.trans (Ys4 (s:=s) h)
 have hl0:0<(pcs s ⟨#[44]⟩).length:=Qw2 _ _ (by decide);obtain⟨l,hl⟩:∃ l,l=pcs s ⟨#[44]⟩:=⟨_,rfl⟩;rw [<-hl] at CS hlm H1 H2 hl0;have HLM:=qh hlm;have CS:=qh CS;have CP:=qh λ x w' (hx:x∈l) (hb:Below w.heap.size w w')=>xl1 x w' (by have:=hlm x hx;omega)
 clear hR hl hlm;go_enter Tryz.func93,Tryz.ntmps93;go_wp2_with fail;refine CS.out.mono ?_;rintro e w1 ⟨v1,rfl,ho,b1⟩;obtain⟨A0,c0,rfl⟩:=ho.form;have hBw:=ho.mono (Nat.le_refl _);obtain⟨g,rfl,hg0,hg1,hg2,hcell⟩:=ho.at_ hl0;have HO:=qh ho;have HB1:=qh b1;clear ho b1 CS hBw hcell hg2;by_cases h30:30<l.length
 . have HR:=qh (H1.out h30);have d1:decide ((30:Int)<(l.length:Int))=true:=decide_eq_true (by omega);have d1':decide (30<l.length)=true:=decide_eq_true h30;clear h30;go_wp2_with fail;go_ret2;exact⟨.slice none 0 0,by rw [HR.out];rfl,by rw [HR.out];exact ON.nil _ _,HB1.out⟩
 . have HR:=qh (H2.out h30);have d1:decide ((30:Int)<(l.length:Int))=false:=decide_eq_false (by omega);have d1':decide (30<l.length)=false:=decide_eq_false h30;go_wp2_with fail;go_loopw [5,6] (λ v u wr=>∃ (k:Nat) (acc:List (Nat×Int)),u= .int .i64 (k:Int)/\k<=l.length/\acc.length<=k/\ON wr w1.heap.size v acc/\Below w1.heap.size w1 wr/\Hid (ZG5 (l.drop k) acc=R)) (λ _ u _=>l.length-(intOf u).toNat)
   case atStart=>exact⟨0,[],rfl,by omega,by simp,ON.nil _ _,Below.refl _ _,qh HR.out.symm⟩
   case round=>
    clear HR;obtain⟨k,acc,rfl,hk,hak,hn,hb,HF⟩:=hrel;have HN:=qh hn;have HB:=qh hb;obtain⟨A1,c1,rfl⟩:=hn.form;by_cases hkl:k<l.length
    . have k1:(k:Int)<(l.length:Int):=(by omega);obtain⟨x,hx⟩:∃ x,l[k]? =some x:=⟨l[k],List.getElem?_eq_getElem hkl⟩;obtain⟨g',hg',_,_,_,hcell⟩:=(HO.out.kept hb).at_ hl0;injection hg' with hg';injection hg' with hg2 hg3 hg4;subst hg2
      have y0:wr.cell? ⟨g,k,none⟩=some (.string x):=by
       have:=hcell k hkl;rw [List.getElem?_eq_getElem hkl] at hx;injection hx with hx;rw [this,hx]
      have CX:=CP.out x wr (List.mem_of_getElem? hx) (HB1.out.trans (hb.mono HB1.out.size));obtain⟨a,b,er,hre⟩:∃ a b er,KL4 x=(a,b,er):=⟨_,_,_,rfl⟩;rw [hre] at CX;have HX:=qh hx;have HRE:=qh hre;have CX:=qh CX;clear hcell hx hre hn hb;by_cases he:er=0
      . subst he;have HF2:Hid (ZG5 (l.drop (k+1)) (acc++ [(a,b)])=R):=qh ((KT8 HX.out HRE.out).symm.trans HF.out);go_wp2_with fail;refine CX.out.mono ?_;rintro e w2 ⟨rfl,b2⟩;have HN2:=qh (HN.out.kept b2);have hb2:=HB.out.trans (b2.mono HB.out.size);have b3:=(Below.refl w2.heap.size w2).alloc (Nat.le_refl _) (.cells #[.int .u32 a,.int .i64 b] 169);have HN3:=qh (HN2.out.kept b3);have HB3:=qh (hb2.trans (b3.mono hb2.size));have hk3:=Blk.new w2 169 #[.int .u32 a,.int .i64 b];clear b2 hb2 b3;go_upto_region 9 with fail;obtain⟨w3,hw3⟩:∃ w3,w2.alloc (.cells #[.int .u32 a,.int .i64 b] 169)=w3:=⟨_,rfl⟩;rw [hw3] at HN3 HB3 hk3⊢;obtain⟨n0,n1⟩:=Blk.c2 hk3;clear hw3 hk3;go_wp2_with (at_builtin;refine QZ7 rfl (.tmp 31) (.tmp 33) rfl HN3.out rfl (a,b) rfl rfl (by omega) HB3.out.size ?_;intro v5 w5 ho5 _ hb5);have HN5:=qh ho5;have HB5:=qh (HB3.out.trans hb5);clear ho5 hb5;go_wp2_with fail;go_roundw
        case rel=>exact⟨k+1,acc++ [(a,b)],by go_num,by omega,by rw [List.length_append,List.length_singleton];omega,HN5.out,HB5.out,HF2⟩
        case measure=>simp [intOf];omega
      . have HF2:Hid (([],er)=R):=qh ((kx1 HX.out HRE.out he).symm.trans HF.out);have d2:(er !=0)=true:=(by rw [bne_iff_ne];exact he);clear he;go_wp2_with fail;refine CX.out.mono ?_;rintro e w2 ⟨rfl,b2⟩;have hb2:=HB.out.trans (b2.mono HB.out.size);have hb3:=HB1.out.trans (hb2.mono HB1.out.size);have HBz:=qh (hb3.alloc hb3.size (.cells #[.int .u32 a,.int .i64 b] 169));clear b2 hb2 hb3;go_wp2_with fail;go_ret2;exact⟨.slice none 0 0,by rw [<-HF2.out];rfl,by rw [<-HF2.out];exact ON.nil _ _,HBz.out⟩
    . obtain rfl:k=l.length:=(by omega);have HF2:Hid ((acc,0)=R):=qh (by rw [<-HF.out,List.drop_length];rfl);clear hn hb;go_wp2_with fail;go_ret2;exact⟨.slice A1 acc.length c1,by rw [<-HF2.out];rfl,by rw [<-HF2.out];exact HN.out.mono HB1.out.size,HB1.out.trans (HB.out.mono HB1.out.size)⟩
end
end Go.Proofs.YtngepacmgabmaaaGreatDoor
