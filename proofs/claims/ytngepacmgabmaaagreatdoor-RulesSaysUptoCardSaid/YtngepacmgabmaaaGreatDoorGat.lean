/- An address that is read (P21), plainly; walk: nets.Parse. (printed by gen_netc.py) -/
import Derived.Test.YtngepacmgabmaaaGreatDoorGas
import Derived.Test.YtngepacmgabmaaaGreatDoorGf
namespace Go.Proofs.YtngepacmgabmaaaGreatDoor
open Go.RowKit
set_option linter.unusedVariables false
set_option linter.unusedSimpArgs false
def YY1:List ByteArray->Nat->Option Nat
 | [],a=>some a
 |x::l,a=>if smN x 255<0 then none else YY1 l (a*256+(smN x 255).toNat)
def slS (s:ByteArray):ByteArray×ByteArray×Bool:=y27 s ⟨#[47]⟩
def ptS (s:ByteArray):List ByteArray:=pcs (slS s).1 ⟨#[46]⟩
def btS (s:ByteArray):Int:=if (slS s).2.2=true then smN (slS s).2.1 32 else 32
def KL4 (s:ByteArray):Nat×Int×Int:=
 if btS s<0 then (0,0,3)
 else if (ptS s).length≠4 then (0,0,3)
 else match YY1 (ptS s) 0 with
  |none=>(0,0,3)
  |some a=>if a%2^(32-KQ0 (btS s))=0 then (a,btS s,0) else (0,0,4)
theorem k77 {s:ByteArray} (h:btS s<0):KL4 s=(0,0,3):=by unfold KL4;rw [if_pos h]
theorem Jt7 {s:ByteArray} (h:¬btS s<0) (h2:(ptS s).length≠4):KL4 s=(0,0,3):=by unfold KL4;rw [if_neg h,if_pos h2]
theorem J83 {s:ByteArray} (h:¬btS s<0) (h2:(ptS s).length=4) (h3:YY1 (ptS s) 0=none):KL4 s=(0,0,3):=by unfold KL4;rw [if_neg h,if_neg (by simp [h2]),h3]
theorem qL6 {s:ByteArray} {a:Nat} (h:¬btS s<0) (h2:(ptS s).length=4) (h3:YY1 (ptS s) 0=some a) (h4:a%2^(32-KQ0 (btS s))=0):KL4 s=(a,btS s,0):=by unfold KL4;rw [if_neg h,if_neg (by simp [h2]),h3];simp only [];rw [if_pos h4]
theorem XT9 {s:ByteArray} {a:Nat} (h:¬btS s<0) (h2:(ptS s).length=4) (h3:YY1 (ptS s) 0=some a) (h4:¬a%2^(32-KQ0 (btS s))=0):KL4 s=(0,0,4):=by unfold KL4;rw [if_neg h,if_neg (by simp [h2]),h3];simp only [];rw [if_neg h4]
theorem zC0 {l:List ByteArray} {a k:Nat} {x:ByteArray} (hx:l[k]? =some x) (h:smN x 255<0):YY1 (l.drop k) a=none:=by
 obtain⟨hk,rfl⟩:=List.getElem?_eq_some_iff.1 hx;rw [List.drop_eq_getElem_cons hk,YY1,if_pos h]
theorem YL2 {l:List ByteArray} {a k n:Nat} {x:ByteArray} (hx:l[k]? =some x) (h:smN x 255=n):YY1 (l.drop k) a=YY1 (l.drop (k+1)) (a*256+n):=by
 obtain⟨hk,rfl⟩:=List.getElem?_eq_some_iff.1 hx;rw [List.drop_eq_getElem_cons hk,YY1,if_neg (by omega),h,Int.toNat_natCast]
theorem Xe2 {a n k:Nat} (h:a<256^k) (hn:n<256):a*256+n<256^(k+1):=by
 rw [Nat.pow_succ];have:(a+1)*256<=256^k*256:=Nat.mul_le_mul_right _ h;omega
theorem KE9 {a k:Nat} (h:a<256^k) (hk:k<=3):a<16777216:=Nat.lt_of_lt_of_le h (Nat.le_trans (Nat.pow_le_pow_right (by decide) hk) (by decide))
theorem Qs5 {a k:Nat} (h:a<256^k) (hk:k<=4):a<4294967296:=Nat.lt_of_lt_of_le h (Nat.le_trans (Nat.pow_le_pow_right (by decide) hk) (by decide))
theorem J04 (a n:Nat) (ha:a<16777216) (hn:n<256):Go.bits .or .u32 ((a:Int)*256) (n:Int)=((a*256+n:Nat):Int):=by
 have h:(BitVec.ofInt 32 ((a:Int)*256)|||BitVec.ofInt 32 (n:Int)).toNat=a*256+n:=by
  rw [show (a:Int)*256=((a*256:Nat):Int) by omega,BitVec.toNat_or,BitVec.ofInt_natCast,BitVec.ofInt_natCast,BitVec.toNat_ofNat,BitVec.toNat_ofNat,Nat.mod_eq_of_lt (by omega),Nat.mod_eq_of_lt (by omega)];have h:=Nat.two_pow_add_eq_or_of_lt (i:=8) (b:=n) (by omega) a;rw [Nat.mul_comm a 256];exact h.symm
 show IntKind.u32.wrap ((BitVec.ofInt 32 ((a:Int)*256)|||BitVec.ofInt 32 (n:Int)).toNat:Int)=_;rw [h];exact IntWalk.u32_in _ ⟨by omega,by omega⟩
structure Nz (w wr:World):Prop where
 res:Blk wr w.heap.size 169 #[.int .u32 0,.int .i64 0]
 be:Below w.heap.size w wr
structure NzF (w wr:World):Prop where
 r0:wr.cell? ⟨w.heap.size,0,none⟩=some (.int .u32 0)
 r1:wr.cell? ⟨w.heap.size,1,none⟩=some (.int .i64 0)
 f0:wr.frozen? ⟨w.heap.size,0,none⟩=false
 f1:wr.frozen? ⟨w.heap.size,1,none⟩=false
section
variable {w wr wr':World}
theorem Nz.start (w:World):Nz w (w.alloc (.cells #[.int .u32 0,.int .i64 0] 169)):=⟨Blk.new _ _ _,(Below.refl _ _).alloc (Nat.le_refl _) _⟩
theorem Nz.lt (h:Nz w wr):w.heap.size<wr.heap.size:=Blk.lt h.res
theorem Nz.step (h:Nz w wr) (hb:Below wr.heap.size wr wr'):Nz w wr':=⟨h.res.below hb h.lt,h.be.trans (hb.mono (Nat.le_of_lt h.lt))⟩
theorem Nz.far (h:Nz w wr) {p:Addr} (hp:w.heap.size<p.block) (u:Value):Nz w (wr.setCell p u):=⟨h.res.far (by omega) u,h.be.setCell (by omega) u⟩
theorem Nz.facts (h:Nz w wr):NzF w wr:=⟨h.res.cell 0,h.res.cell 1,h.res.frozen 0,h.res.frozen 1⟩
theorem Nz.put (h:Nz w wr) (a b:Value):∃ wz,wz=(wr.setCell ⟨w.heap.size,0,none⟩ a).setCell ⟨w.heap.size,1,none⟩ b/\Below w.heap.size w wz/\wz.cell? ⟨w.heap.size,0,none⟩=some a/\wz.cell? ⟨w.heap.size,1,none⟩=some b:=by
 have h1:=(h.res.set_ 0 a).set_ 1 b;exact⟨_,rfl,(h.be.setCell (p:=⟨w.heap.size,0,none⟩) (Nat.le_refl _) _).setCell (p:=⟨w.heap.size,1,none⟩) (Nat.le_refl _) _,h1.cell 0,h1.cell 1⟩
end
def X91 (R:Nat×Int×Int) (w:World) (e:Ending) (w':World):Prop:=e= .returned (.tuple #[.agg #[.int .u32 R.1,.int .i64 R.2.1],.int .i64 R.2.2])/\Below w.heap.size w w'
theorem OS.far {w:World} {B:Nat} {v:Value} {l:List ByteArray} (h:OS w B v l) {p:Addr} (hp:∀ g,v.ownBlock=some g->g≠p.block) (u:Value):OS (w.setCell p u) B v l:=by
 refine⟨h.1,?_⟩;rcases h.2 with h2|⟨g,cap,cur,e1,e2,e3,e4⟩
 . exact .inl h2
 . refine .inr ⟨g,cap,cur,e1,e2,?_,e4⟩;rw [Below.heap_setCell w p u g (hp g (by rw [e1];rfl))];exact e3
section
variable (s:ByteArray) (m:Int) (w:World)
set_option maxRecDepth 100000 in
set_option maxHeartbeats 4000000 in
theorem qC5 (hs:s.size<=1048576) (hm:w.cell? ⟨4,0,none⟩=some (.int .i64 m)):
 Calls Tryz.prog 141 #[.string s] w (X91 (KL4 s) w):=by
 obtain⟨R,hR⟩:∃ R,R=KL4 s:=⟨_,rfl⟩;rw [<-hR];have H1:=qh λ h=>hR.trans (k77 (s:=s) h)
 have H2:=qh λ h h2=>hR.trans (Jt7 (s:=s) h h2)
 have H3:=qh λ h h2 h3=>hR.trans (J83 (s:=s) h h2 h3)
 have H4:=qh λ a h h2 h3 h4=>hR.trans (qL6 (s:=s) (a:=a) h h2 h3 h4)
 have H5:=qh λ a h h2 h3 h4=>hR.trans (XT9 (s:=s) (a:=a) h h2 h3 h4)
 obtain⟨W,hW⟩:∃ W,w.alloc (.cells #[.int .u32 0,.int .i64 0] 169)=W:=⟨_,rfl⟩;have hZ:Nz w W:=by rw [<-hW];exact Nz.start w
 have HM:=qh λ w' (h:Nz w w')=>(h.be.cell (p:=⟨4,0,none⟩) (World.block_lt_of_cell? _ _ hm)).trans hm
 have hcz:=Jb0 s ⟨#[47]⟩;have CC:=YN5 s ⟨#[47]⟩ m W hs (HM.out W hZ);obtain⟨c1,c2,c3,hc⟩:∃ c1 c2 c3,y27 s ⟨#[47]⟩=(c1,c2,c3):=⟨_,_,_,rfl⟩;rw [hc] at CC hcz;dsimp only at CC hcz;obtain⟨hz1,hz2⟩:=hcz;have HB:Hid (btS s=if c3=true then smN c2 32 else 32):=qh (by unfold btS slS;rw [hc]);have HPt:Hid (ptS s=pcs c1 ⟨#[46]⟩):=qh (by unfold ptS slS;rw [hc]);have CN:=qh λ w'=>ya2 c2 32 w' (by unfold maxLen;omega)
 have CS:=qh λ w' (h:Nz w w')=>qQ5 c1 ⟨#[46]⟩ m w' (by omega) (HM.out w' h) (by decide)
 have CC:=qh CC;have HZ:=qh hZ;have hbd:=Ql8 c2 32 (by omega);obtain⟨b,hb⟩:∃ b,b=smN c2 32:=⟨_,rfl⟩;rw [<-hb] at hbd HB CN;clear hR hZ hm hc hb;cases c3 with
 |true=>
  have HBt:Hid (btS s=b):=qh (by rw [HB.out,if_pos rfl]);by_cases hb:b<0
  . have HR:=qh (H1.out (by rw [HBt.out];exact hb));have d1:decide (b<0)=true:=decide_eq_true hb;clear hb;go_enter Tryz.func141,Tryz.ntmps141;go_wp2_with fail;refine CC.out.mono ?_;rintro e w1 ⟨rfl,q1,hq1⟩;have hZ1:=HZ.out.step (by rw [hq1];exact below_drewN (Below.refl _ _) q1:Below W.heap.size W w1);clear hq1 hW CC HZ;have HZ1:=qh hZ1;clear hZ1;go_wp2_with fail;refine(CN.out _).mono ?_;rintro e w2 ⟨rfl,q2,hq2⟩;have hZ2:=HZ1.out.step (by rw [hq2];exact below_drewN (Below.refl _ _) q2:Below w1.heap.size w1 w2);clear hq2 HZ1;obtain⟨r0,r1,f0,f1⟩:=hZ2.facts;obtain⟨wz,hwz,hbz,z0,z1⟩:=hZ2.put (.int .u32 0) (.int .i64 0);go_wp2_with fail;rw [<-hwz];exact bodyPost_ret (v:= .tuple #[.agg #[.int .u32 0,.int .i64 0],.int .i64 3]) (by simp [results,Tryz.results141,go_sem,z0,z1]) rfl ⟨by rw [HR.out];rfl,hbz⟩
  . have d1:decide (b<0)=false:=decide_eq_false hb;go_enter Tryz.func141,Tryz.ntmps141;go_wp2_with fail;refine CC.out.mono ?_;rintro e w1 ⟨rfl,q1,hq1⟩;have hZ1:=HZ.out.step (by rw [hq1];exact below_drewN (Below.refl _ _) q1:Below W.heap.size W w1);clear hq1 hW CC HZ;have HZ1:=qh hZ1;clear hZ1;go_wp2_with fail;refine(CN.out _).mono ?_;rintro e w2 ⟨rfl,q2,hq2⟩;have hZ2:=HZ1.out.step (by rw [hq2];exact below_drewN (Below.refl _ _) q2:Below w1.heap.size w1 w2);clear hq2 HZ1;have hZn:=hZ2;clear hZ2;obtain⟨l,hl⟩:∃ l,l=pcs c1 ⟨#[46]⟩:=⟨_,rfl⟩;have hlm:=zN9 ⟨#[46]⟩ (by decide) c1.size c1 (Nat.le_refl _);have CSp:=CS.out w2 hZn;rw [<-hl] at CSp hlm;have HPl:Hid (ptS s=l):=qh (HPt.out.trans hl.symm);have CSp:=qh CSp;have HLM:=qh hlm;have HZn:=qh hZn;clear hl hZn hlm;go_wp2_with fail;refine CSp.out.mono ?_;rintro e w3 ⟨rfl,ho3,b3⟩;have hZ3:=HZn.out.step b3;have hgz:w.heap.size<w2.heap.size:=HZn.out.lt;clear b3 HZn CSp;by_cases h4:l.length=4
    . have hne:((l.length:Int) !=4)=false:=(by rw [h4];rfl);obtain⟨g,hg,hgB,hgs,hgc,hcell⟩:=ho3.at_ (by omega);injection hg with hg;injection hg with hg1 hg2 hg3;subst hg1;have hal:=(Below.refl w3.heap.size w3).alloc (Nat.le_refl _) (.cells #[.int .u32 0,.int .i64 b] 169);have hZ4:=hZ3.step hal;have hO4:=ho3.kept hal;have hK4:=Blk.new w3 169 #[.int .u32 0,.int .i64 b];have hlt:w2.heap.size<w3.heap.size:=hgs;have H4L:=qh h4;have h4a:l.length<=4:=(by omega);have h4b:4<=l.length:=(by omega);clear hcell hal ho3 hZ3 h4;go_upto_region 11 with fail;obtain⟨V,hV⟩:∃ V,w3.alloc (.cells #[.int .u32 0,.int .i64 b] 169)=V:=⟨_,rfl⟩;rw [hV] at hZ4 hO4 hK4⊢;clear hV;have HZ4:=qh hZ4;have HO4:=qh hO4;have HK4:=qh hK4;have HA0:Hid (YY1 (l.drop 0) 0=YY1 l 0):=qh rfl;clear hZ4 hO4 hK4;go_wp2_with fail;go_loopw [35] (λ u wr=>∃ k a:Nat,u= .int .i64 (k:Int)/\k<=4/\Nz w wr/\Blk wr w3.heap.size 169 #[.int .u32 a,.int .i64 b]/\OS wr w2.heap.size (.slice (some ⟨w2.heap.size,0,none⟩) l.length l.length) l/\Hid (a<256^k)/\Hid (YY1 (l.drop k) a=YY1 l 0)) (λ u _=>4-(intOf u).toNat)
      case atStart=>exact⟨0,0,rfl,by omega,HZ4.out,HK4.out,HO4.out,by show 0<256^0;decide,HA0.out⟩
      case round=>
       obtain⟨k,a,rfl,hk,hz,hkb,ho,HA,HF⟩:=hrel;obtain⟨n0,n1⟩:=Blk.c2 hkb;have nf:=Blk.frozen hkb 0;have HZr:=qh hz;have HKr:=qh hkb;have HOr:=qh ho;by_cases hkl:k<4
       . have ha:=KE9 HA.out (by omega);have i1:(k:Int)<(l.length:Int):=(by omega);obtain⟨x,hx⟩:∃ x,l[k]? =some x:=⟨l[k]'(by omega),List.getElem?_eq_getElem (by omega)⟩;obtain⟨g,hg,_,_,_,hcell⟩:=ho.at_ (by omega);injection hg with hg;injection hg with hg1 hg2 hg3;subst hg1
         have y0:wr.cell? ⟨w2.heap.size,k,none⟩=some (.string x):=by
          have:=hcell k (by omega);rw [List.getElem?_eq_getElem (by omega)] at hx;injection hx with hx;rw [this,hx]
         have hxz:x.size<=1048576:=by
          have:=HLM.out x (List.mem_of_getElem? hx);omega
         have CX:=λ w'=>ya2 x 255 w' (by unfold maxLen;omega)
         have hxb:=Ql8 x 255 (by omega);obtain⟨N,hN⟩:∃ N,smN x 255=N:=⟨_,rfl⟩;have HXX:=qh hx;rw [hN] at CX hxb;have CX:=qh CX;obtain⟨nb1,nb2⟩:=hxb;clear hcell hx hz hkb ho;by_cases hn:N<0
         . have HR:=qh (H3.out (by rw [HBt.out];omega) (by rw [HPl.out];exact H4L.out) (by rw [HPl.out,<-HF.out];exact zC0 HXX.out (by omega)));have d1:decide (N<0)=true:=decide_eq_true hn;clear hn hN;go_wp2_with fail;refine(CX.out _).mono ?_;rintro e w5 ⟨rfl,q5,hq5⟩;have hZ5:=HZr.out.step (by rw [hq5];exact below_drewN (Below.refl _ _) q5:Below wr.heap.size wr w5);obtain⟨r0,r1,f0,f1⟩:=hZ5.facts;have HZ5:=qh hZ5;clear hq5 hZ5;obtain⟨wz,hwz,hbz,z0,z1⟩:=HZ5.out.put (.int .u32 0) (.int .i64 0);go_wp2_with fail;rw [<-hwz];exact bodyPost_ret (v:= .tuple #[.agg #[.int .u32 0,.int .i64 0],.int .i64 3]) (by simp [results,Tryz.results141,go_sem,z0,z1]) rfl ⟨by rw [HR.out];rfl,hbz⟩
         . obtain⟨n,rfl⟩:=Int.eq_ofNat_of_zero_le (show 0<=N by omega);have d1:decide ((n:Int)<0)=false:=decide_eq_false hn;have hn255:n<256:=(by omega);have HF2:Hid (YY1 (l.drop (k+1)) (a*256+n)=YY1 l 0):=qh ((YL2 HXX.out hN).symm.trans HF.out);have HA2:=qh (Xe2 HA.out hn255);have js:IntKind.u32.wrap ((a:Int)*256)=(a:Int)*256:=IntWalk.u32_in _ ⟨by omega,by omega⟩;have js2:(a:Int)*256%4294967296=(a:Int)*256:=(by omega);have jn:IntKind.u32.wrap (n:Int)=(n:Int):=IntWalk.u32_in _ ⟨by omega,by omega⟩;have jn2:(n:Int)%4294967296=(n:Int):=(by omega);have hor:=J04 a n ha hn255;clear hn hN;go_wp2_with fail;refine(CX.out _).mono ?_;rintro e w5 ⟨rfl,q5,hq5⟩;have b5:Below wr.heap.size wr w5:=(by rw [hq5];exact below_drewN (Below.refl _ _) q5);have hZ5:=HZr.out.step b5;have hK5:=HKr.out.below b5 HKr.out.lt;have hO5:=HOr.out.kept b5;have n0':=Blk.e0 hK5;have nf':=Blk.frozen hK5 0;have hZ6:=hZ5.far (p:=⟨w3.heap.size,0,none⟩) (by show w.heap.size<w3.heap.size;omega) (.int .u32 ((a*256+n:Nat):Int));have hK6:=hK5.set_ 0 (.int .u32 ((a*256+n:Nat):Int))
           have hO6:=hO5.far (p:=⟨w3.heap.size,0,none⟩) (λ g hg=>by
            simp only [Value.ownBlock,Option.some.injEq] at hg;show g≠w3.heap.size;omega) (.int .u32 ((a*256+n:Nat):Int))
           have HZ6:=qh hZ6;have HK6:=qh hK6;have HO6:=qh hO6;clear hq5 b5 hZ5 hK5 hO5 hZ6 hK6 hO6;go_wp2_with fail;go_roundw
           case rel=>exact⟨k+1,a*256+n,by go_num,by omega,HZ6.out,HK6.out,HO6.out,HA2,HF2⟩
           case measure=>simp [intOf];omega
       . obtain rfl:k=4:=(by omega);have ha:=Qs5 HA.out (by omega);have HF4:Hid (YY1 l 0=some a):=qh (by rw [<-HF.out,List.drop_eq_nil_of_le (by omega)];rfl);have e4:decide ((4:Int)<(l.length:Int))=false:=decide_eq_false (by omega);have e4':decide (4<l.length)=false:=decide_eq_false (by omega);have CMk:=qh λ w'=>k57 b w'
         have hmk:=JX8 a b ha;obtain⟨r0,r1,f0,f1⟩:=hz.facts;clear hz hkb ho;by_cases hmod:a%2^(32-KQ0 b)=0
         . have HR:=qh (H4.out a (by rw [HBt.out];omega) (by rw [HPl.out];exact H4L.out) (by rw [HPl.out];exact HF4.out) (by rw [HBt.out];exact hmod));rw [hmod] at hmk;obtain⟨wz,hwz,hbz,z0,z1⟩:=(HZr.out.step (below_drewN (Below.refl _ _) 0:Below wr.heap.size wr (wr.drewN 0))).put (.int .u32 a) (.int .i64 b);clear hmod hwz hbz z0 z1 wz;go_wp2_with fail;go_quiet (first|(go_at_call 170;exact(CMk.out _).mono λ _ _ h=>⟨h.1,_,h.2.symm⟩))
           have hZq:=HZr.out.step (below_drewN (Below.refl _ _) nq:Below wr.heap.size wr (wr.drewN nq));obtain⟨wz,hwz,hbz,z0,z1⟩:=hZq.put (.int .u32 a) (.int .i64 b);go_wp2_with fail;rw [<-hwz];exact bodyPost_ret (v:= .tuple #[.agg #[.int .u32 a,.int .i64 b],.int .i64 0]) (by simp [results,Tryz.results141,go_sem,z0,z1]) rfl ⟨by rw [HR.out,HBt.out],hbz⟩
         . have HR:=qh (H5.out a (by rw [HBt.out];omega) (by rw [HPl.out];exact H4L.out) (by rw [HPl.out];exact HF4.out) (by rw [HBt.out];exact hmod));obtain⟨M,hM⟩:∃ M,a%2^(32-KQ0 b)=M:=⟨_,rfl⟩;rw [hM] at hmk hmod;have hmn:((M:Int) !=0)=true:=(by rw [bne_iff_ne];omega);clear hmod hM;go_wp2_with fail;go_quiet (first|(go_at_call 170;exact(CMk.out _).mono λ _ _ h=>⟨h.1,_,h.2.symm⟩))
           have hZq:=HZr.out.step (below_drewN (Below.refl _ _) nq:Below wr.heap.size wr (wr.drewN nq));obtain⟨wz,hwz,hbz,z0,z1⟩:=hZq.put (.int .u32 0) (.int .i64 0);go_wp2_with fail;rw [<-hwz];exact bodyPost_ret (v:= .tuple #[.agg #[.int .u32 0,.int .i64 0],.int .i64 4]) (by simp [results,Tryz.results141,go_sem,z0,z1]) rfl ⟨by rw [HR.out];rfl,hbz⟩
    . have HR:=qh (H2.out (by rw [HBt.out];omega) (by rw [HPl.out];exact h4));have hne:((l.length:Int) !=4)=true:=(by rw [bne_iff_ne];omega);obtain⟨r0,r1,f0,f1⟩:=hZ3.facts;clear ho3 h4;obtain⟨wz,hwz,hbz,z0,z1⟩:=hZ3.put (.int .u32 0) (.int .i64 0);go_wp2_with fail;rw [<-hwz];exact bodyPost_ret (v:= .tuple #[.agg #[.int .u32 0,.int .i64 0],.int .i64 3]) (by simp [results,Tryz.results141,go_sem,z0,z1]) rfl ⟨by rw [HR.out];rfl,hbz⟩
 |false=>
  have HBt:Hid (btS s=32):=qh (by rw [HB.out,if_neg (by decide)]);go_enter Tryz.func141,Tryz.ntmps141;go_wp2_with fail;refine CC.out.mono ?_;rintro e w1 ⟨rfl,q1,hq1⟩;have hZ1:=HZ.out.step (by rw [hq1];exact below_drewN (Below.refl _ _) q1:Below W.heap.size W w1);clear hq1 hW CC HZ;have hZn:=hZ1;clear hZ1;obtain⟨l,hl⟩:∃ l,l=pcs c1 ⟨#[46]⟩:=⟨_,rfl⟩;have hlm:=zN9 ⟨#[46]⟩ (by decide) c1.size c1 (Nat.le_refl _);have CSp:=CS.out w1 hZn;rw [<-hl] at CSp hlm;have HPl:Hid (ptS s=l):=qh (HPt.out.trans hl.symm);have CSp:=qh CSp;have HLM:=qh hlm;have HZn:=qh hZn;clear hl hZn hlm;go_wp2_with fail;refine CSp.out.mono ?_;rintro e w3 ⟨rfl,ho3,b3⟩;have hZ3:=HZn.out.step b3;have hgz:w.heap.size<w1.heap.size:=HZn.out.lt;clear b3 HZn CSp;by_cases h4:l.length=4
  . have hne:((l.length:Int) !=4)=false:=(by rw [h4];rfl);obtain⟨g,hg,hgB,hgs,hgc,hcell⟩:=ho3.at_ (by omega);injection hg with hg;injection hg with hg1 hg2 hg3;subst hg1;have hal:=(Below.refl w3.heap.size w3).alloc (Nat.le_refl _) (.cells #[.int .u32 0,.int .i64 32] 169);have hZ4:=hZ3.step hal;have hO4:=ho3.kept hal;have hK4:=Blk.new w3 169 #[.int .u32 0,.int .i64 32];have hlt:w1.heap.size<w3.heap.size:=hgs;have H4L:=qh h4;have h4a:l.length<=4:=(by omega);have h4b:4<=l.length:=(by omega);clear hcell hal ho3 hZ3 h4;go_upto_region 11 with fail;obtain⟨V,hV⟩:∃ V,w3.alloc (.cells #[.int .u32 0,.int .i64 32] 169)=V:=⟨_,rfl⟩;rw [hV] at hZ4 hO4 hK4⊢;clear hV;have HZ4:=qh hZ4;have HO4:=qh hO4;have HK4:=qh hK4;have HA0:Hid (YY1 (l.drop 0) 0=YY1 l 0):=qh rfl;clear hZ4 hO4 hK4;go_wp2_with fail;go_loopw [35] (λ u wr=>∃ k a:Nat,u= .int .i64 (k:Int)/\k<=4/\Nz w wr/\Blk wr w3.heap.size 169 #[.int .u32 a,.int .i64 32]/\OS wr w1.heap.size (.slice (some ⟨w1.heap.size,0,none⟩) l.length l.length) l/\Hid (a<256^k)/\Hid (YY1 (l.drop k) a=YY1 l 0)) (λ u _=>4-(intOf u).toNat)
    case atStart=>exact⟨0,0,rfl,by omega,HZ4.out,HK4.out,HO4.out,by show 0<256^0;decide,HA0.out⟩
    case round=>
     obtain⟨k,a,rfl,hk,hz,hkb,ho,HA,HF⟩:=hrel;obtain⟨n0,n1⟩:=Blk.c2 hkb;have nf:=Blk.frozen hkb 0;have HZr:=qh hz;have HKr:=qh hkb;have HOr:=qh ho;by_cases hkl:k<4
     . have ha:=KE9 HA.out (by omega);have i1:(k:Int)<(l.length:Int):=(by omega);obtain⟨x,hx⟩:∃ x,l[k]? =some x:=⟨l[k]'(by omega),List.getElem?_eq_getElem (by omega)⟩;obtain⟨g,hg,_,_,_,hcell⟩:=ho.at_ (by omega);injection hg with hg;injection hg with hg1 hg2 hg3;subst hg1
       have y0:wr.cell? ⟨w1.heap.size,k,none⟩=some (.string x):=by
        have:=hcell k (by omega);rw [List.getElem?_eq_getElem (by omega)] at hx;injection hx with hx;rw [this,hx]
       have hxz:x.size<=1048576:=by
        have:=HLM.out x (List.mem_of_getElem? hx);omega
       have CX:=λ w'=>ya2 x 255 w' (by unfold maxLen;omega)
       have hxb:=Ql8 x 255 (by omega);obtain⟨N,hN⟩:∃ N,smN x 255=N:=⟨_,rfl⟩;have HXX:=qh hx;rw [hN] at CX hxb;have CX:=qh CX;obtain⟨nb1,nb2⟩:=hxb;clear hcell hx hz hkb ho;by_cases hn:N<0
       . have HR:=qh (H3.out (by rw [HBt.out];omega) (by rw [HPl.out];exact H4L.out) (by rw [HPl.out,<-HF.out];exact zC0 HXX.out (by omega)));have d1:decide (N<0)=true:=decide_eq_true hn;clear hn hN;go_wp2_with fail;refine(CX.out _).mono ?_;rintro e w5 ⟨rfl,q5,hq5⟩;have hZ5:=HZr.out.step (by rw [hq5];exact below_drewN (Below.refl _ _) q5:Below wr.heap.size wr w5);obtain⟨r0,r1,f0,f1⟩:=hZ5.facts;have HZ5:=qh hZ5;clear hq5 hZ5;obtain⟨wz,hwz,hbz,z0,z1⟩:=HZ5.out.put (.int .u32 0) (.int .i64 0);go_wp2_with fail;rw [<-hwz];exact bodyPost_ret (v:= .tuple #[.agg #[.int .u32 0,.int .i64 0],.int .i64 3]) (by simp [results,Tryz.results141,go_sem,z0,z1]) rfl ⟨by rw [HR.out];rfl,hbz⟩
       . obtain⟨n,rfl⟩:=Int.eq_ofNat_of_zero_le (show 0<=N by omega);have d1:decide ((n:Int)<0)=false:=decide_eq_false hn;have hn255:n<256:=(by omega);have HF2:Hid (YY1 (l.drop (k+1)) (a*256+n)=YY1 l 0):=qh ((YL2 HXX.out hN).symm.trans HF.out);have HA2:=qh (Xe2 HA.out hn255);have js:IntKind.u32.wrap ((a:Int)*256)=(a:Int)*256:=IntWalk.u32_in _ ⟨by omega,by omega⟩;have js2:(a:Int)*256%4294967296=(a:Int)*256:=(by omega);have jn:IntKind.u32.wrap (n:Int)=(n:Int):=IntWalk.u32_in _ ⟨by omega,by omega⟩;have jn2:(n:Int)%4294967296=(n:Int):=(by omega);have hor:=J04 a n ha hn255;clear hn hN;go_wp2_with fail;refine(CX.out _).mono ?_;rintro e w5 ⟨rfl,q5,hq5⟩;have b5:Below wr.heap.size wr w5:=(by rw [hq5];exact below_drewN (Below.refl _ _) q5);have hZ5:=HZr.out.step b5;have hK5:=HKr.out.below b5 HKr.out.lt;have hO5:=HOr.out.kept b5;have n0':=Blk.e0 hK5;have nf':=Blk.frozen hK5 0;have hZ6:=hZ5.far (p:=⟨w3.heap.size,0,none⟩) (by show w.heap.size<w3.heap.size;omega) (.int .u32 ((a*256+n:Nat):Int));have hK6:=hK5.set_ 0 (.int .u32 ((a*256+n:Nat):Int))
         have hO6:=hO5.far (p:=⟨w3.heap.size,0,none⟩) (λ g hg=>by
          simp only [Value.ownBlock,Option.some.injEq] at hg;show g≠w3.heap.size;omega) (.int .u32 ((a*256+n:Nat):Int))
         have HZ6:=qh hZ6;have HK6:=qh hK6;have HO6:=qh hO6;clear hq5 b5 hZ5 hK5 hO5 hZ6 hK6 hO6;go_wp2_with fail;go_roundw
         case rel=>exact⟨k+1,a*256+n,by go_num,by omega,HZ6.out,HK6.out,HO6.out,HA2,HF2⟩
         case measure=>simp [intOf];omega
     . obtain rfl:k=4:=(by omega);have ha:=Qs5 HA.out (by omega);have HF4:Hid (YY1 l 0=some a):=qh (by rw [<-HF.out,List.drop_eq_nil_of_le (by omega)];rfl);have e4:decide ((4:Int)<(l.length:Int))=false:=decide_eq_false (by omega);have e4':decide (4<l.length)=false:=decide_eq_false (by omega);have CMk:=qh λ w'=>k57 32 w'
       have hmk:=JX8 a 32 ha;obtain⟨r0,r1,f0,f1⟩:=hz.facts;clear hz hkb ho;by_cases hmod:a%2^(32-KQ0 32)=0
       . have HR:=qh (H4.out a (by rw [HBt.out];omega) (by rw [HPl.out];exact H4L.out) (by rw [HPl.out];exact HF4.out) (by rw [HBt.out];exact hmod));rw [hmod] at hmk;obtain⟨wz,hwz,hbz,z0,z1⟩:=(HZr.out.step (below_drewN (Below.refl _ _) 0:Below wr.heap.size wr (wr.drewN 0))).put (.int .u32 a) (.int .i64 32);clear hmod hwz hbz z0 z1 wz;go_wp2_with fail;go_quiet (first|(go_at_call 170;exact(CMk.out _).mono λ _ _ h=>⟨h.1,_,h.2.symm⟩))
         have hZq:=HZr.out.step (below_drewN (Below.refl _ _) nq:Below wr.heap.size wr (wr.drewN nq));obtain⟨wz,hwz,hbz,z0,z1⟩:=hZq.put (.int .u32 a) (.int .i64 32);go_wp2_with fail;rw [<-hwz];exact bodyPost_ret (v:= .tuple #[.agg #[.int .u32 a,.int .i64 32],.int .i64 0]) (by simp [results,Tryz.results141,go_sem,z0,z1]) rfl ⟨by rw [HR.out,HBt.out],hbz⟩
       . have HR:=qh (H5.out a (by rw [HBt.out];omega) (by rw [HPl.out];exact H4L.out) (by rw [HPl.out];exact HF4.out) (by rw [HBt.out];exact hmod));obtain⟨M,hM⟩:∃ M,a%2^(32-KQ0 32)=M:=⟨_,rfl⟩;rw [hM] at hmk hmod;have hmn:((M:Int) !=0)=true:=(by rw [bne_iff_ne];omega);clear hmod hM;go_wp2_with fail;go_quiet (first|(go_at_call 170;exact(CMk.out _).mono λ _ _ h=>⟨h.1,_,h.2.symm⟩))
         have hZq:=HZr.out.step (below_drewN (Below.refl _ _) nq:Below wr.heap.size wr (wr.drewN nq));obtain⟨wz,hwz,hbz,z0,z1⟩:=hZq.put (.int .u32 0) (.int .i64 0);go_wp2_with fail;rw [<-hwz];exact bodyPost_ret (v:= .tuple #[.agg #[.int .u32 0,.int .i64 0],.int .i64 4]) (by simp [results,Tryz.results141,go_sem,z0,z1]) rfl ⟨by rw [HR.out];rfl,hbz⟩
  . have HR:=qh (H2.out (by rw [HBt.out];omega) (by rw [HPl.out];exact h4));have hne:((l.length:Int) !=4)=true:=(by rw [bne_iff_ne];omega);obtain⟨r0,r1,f0,f1⟩:=hZ3.facts;clear ho3 h4;obtain⟨wz,hwz,hbz,z0,z1⟩:=hZ3.put (.int .u32 0) (.int .i64 0);go_wp2_with fail;rw [<-hwz];exact bodyPost_ret (v:= .tuple #[.agg #[.int .u32 0,.int .i64 0],.int .i64 3]) (by simp [results,Tryz.results141,go_sem,z0,z1]) rfl ⟨by rw [HR.out];rfl,hbz⟩
end
end Go.Proofs.YtngepacmgabmaaaGreatDoor
