/- Walk: wickref.RulesText. -/
import Derived.Test.YtngepacmgabmaaaGreatDoorGj
namespace Go.Proofs.YtngepacmgabmaaaGreatDoor
open Go.RowKit
set_option linter.unusedVariables false
set_option linter.unusedSimpArgs false
theorem Z13 {w:World} {g B:Nat} {a b c:ByteArray} (h:Blk w g 9 #[.string a,.string b,.string c]) (hB:B<=g):OS w B (.slice (some ⟨g,0,none⟩) 3 3) [a,b,c]:=
 ⟨rfl,.inr ⟨g,3,_,rfl,hB,h,Nat.le_refl _,by decide,rfl,rfl⟩⟩
theorem Zx5 {w:World} {B:Nat} {v:Value} {a0 b0 c0 a1 b1 c1 d1 e1:ByteArray} {ops:Array Oper} {o:Oper} {a:Act} {K:Act->World->Prop} {Q:Exit->Act->World->Prop} {E:Prop} (hgd:o.guard=none) (p q:Operand)
 (hop:o.op= .call {callee:= .builtin .append,args:=#[p,q],argTypes:=#[37,37]})
 (h:OS w B v [a0,b0,c0]) (hB:B<=w.heap.size) (hs:a.eval p=v)
 (hx:a.eval q= .slice (some ⟨w.heap.size,0,none⟩) 5 5)
 (hK:∀ A' c' w',OS w' B (.slice A' 8 c') [a0,b0,c0,a1,b1,c1,d1,e1]->Below B w w'->K (a.put o.dst (.slice A' 8 c')) w'):
 if Region.wanted o (yielded ops a.tmps)=true then Oper.wp Tryz.prog o a (w.alloc (.cells #[.string a1,.string b1,.string c1,.string d1,.string e1] 9)) K Q else E:=by
 obtain⟨i0,hi0,hz0,hz1,hz2⟩:=info_parts KY7
 refine xP0 (P:=Tryz.prog) (Q:=Q) (ops:=ops) hgd p q hop Tryz.underlying37 hi0 hz0 hz1 hz2 rfl (by decide) h hs [.string a1,.string b1,.string c1,.string d1,.string e1] 5 5 hx rfl (by
  intro u hu;simp only [List.mem_cons,List.not_mem_nil,or_false] at hu;rcases hu with rfl|rfl|rfl|rfl|rfl<;>rfl) (by simp only [List.length_cons,List.length_nil];unfold maxLen;omega) (by simp only [List.length_cons,List.length_nil];omega) hB λ v' w' h2 h3=> ?_
 have h4:OS w' B v' [a0,b0,c0,a1,b1,c1,d1,e1]:=h2;obtain⟨A',c',rfl⟩:=h4.form;exact hK A' c' w' h4 (h3.below hB (Kw5 h))
theorem Xg2 {z:Int} {n:Nat} (h:0<=z/\z<(n:Int)):∃ k:Nat,z=(k:Int)/\k<n:=⟨z.toNat,by omega,by omega⟩
theorem TbW.get {g:Nat} {L:List ByteArray} {w:World} (h:TbW g L w) {z:Int} {k:Nat} (hz:z=(k:Int)) (hk:k<L.length):w.cell? ⟨g,k,none⟩=some (.string (L.getD z.toNat ByteArray.empty)):=by subst hz;exact h.at_ k hk
theorem zB3 {w:World} {g m:Nat} {t:TypeId} (h:Blk w g t #[.string ⟨#[]⟩,.string ⟨#[35]⟩,.string ⟨#[33]⟩]) (hm:m<3):w.cell? ⟨g,m,none⟩=some (.string (mdB (m:Int))):=by
 rw [h.cell m];obtain rfl|rfl|rfl:m=0\/m=1\/m=2:=by omega
 all_goals rfl
theorem kt4 {w:World} {B:Nat} {r:Ru} (hp:RuP r) (hm:RuM w B r):(jnS (r.vs.map vTx) 44).size<=10000000:=kI1 hp hm.vs.2.2.2 hm.ag _ (by simp [ruW])
theorem Zc7 {w:World} {B:Nat} {r:Ru} (hp:RuP r) (hm:RuM w B r):(jnS (r.xs.map aTx) 44).size<=10000000:=kI1 hp hm.vs.2.2.2 hm.ag _ (by simp [ruW])
theorem yW0 (l:List ByteArray) (c:UInt8):(Lib.join (dl l) [c]).length=(jnS l c).size:=by
 show _=(Lib.join (dl l) [c]).toArray.size;rw [List.size_toArray]
def LpS (B:Nat) (Wz:World) (L:List ByteArray) (n:Nat) (v u:Value) (wr:World):Prop:=∃ (j:Nat) (A:Option Addr) (c:Nat),u= .int .i64 (j:Int)/\v= .slice A j c/\j<=n/\Hid (OS wr B (.slice A j c) (L.take j))/\Hid (Below B Wz wr)
theorem LpS.mk {B:Nat} {Wz:World} {L:List ByteArray} {n:Nat} {wr:World} {j c:Nat} {A:Option Addr} {z:Int} (hz:z=(j:Int)) (hj:j<=n) (h1:Hid (OS wr B (.slice A j c) (L.take j))) (h2:Hid (Below B Wz wr)):LpS B Wz L n (.slice A j c) (.int .i64 z) wr:=⟨j,A,c,by rw [hz],rfl,hj,h1,h2⟩
def RtL (most st:Int) (l:List Ru) (W:World) (o u:Value) (wr:World):Prop:=∃ k:Nat,u= .int .i64 (k:Int)/\o= .string (str (xj5 most st (l.take k)))/\k<=l.length/\Hid (Below W.heap.size W wr)
theorem RtL.mk {most st:Int} {l:List Ru} {W wr:World} {k:Nat} {z:Int} {T:ByteArray} (hz:z=(k:Int)) (hT:T=str (xj5 most st (l.take k))) (hk:k<=l.length) (h:Hid (Below W.heap.size W wr)):RtL most st l W (.string T) (.int .i64 z) wr:=⟨k,by rw [hz],by rw [hT],hk,h⟩
section
variable (AE:Int->ByteArray->Int) (most st:Int) (l:List Ru) (A:Option Addr) (cap B:Nat) (w:World)
set_option maxRecDepth 100000 in
set_option maxHeartbeats 8000000 in
theorem x03 (h:RuR w B A cap l) (hT:TW w) (hI:TwI w) (h0:QR3 AE most st l=0):
 Calls Tryz.prog 9 #[.agg #[.int .i64 most,.int .i64 st,.slice A l.length cap]] w λ e w'=>e= .returned (.string (str (xj5 most st l)))/\Below w.heap.size w w':=by
 obtain⟨hm1,hs1,hl1,hrp⟩:=qn1 h0;have H:=qh λ w' (hb:Below w.heap.size w w')=>h.kept hb
 have HT:=qh λ w' (hb:Below w.heap.size w w')=>hT.below hb
 have HI:=qh λ w' (hb:Below w.heap.size w w')=>hI.below hb
 obtain⟨W,hW⟩:∃ W,w.alloc (.cells #[.int .i64 most,.int .i64 st,.slice A l.length cap] 24)=W:=⟨_,rfl⟩;have hb1:Below w.heap.size w W:=by rw [<-hW];exact(Below.refl _ _).alloc (Nat.le_refl _) _
 have hk1:Blk W w.heap.size 24 #[.int .i64 most,.int .i64 st,.slice A l.length cap]:=by rw [<-hW];exact Blk.new _ _ _
 have HRP:=qh hrp;have hz:=Ya9 hm1 hs1;have HZ:=qh hz;have HK1:=qh hk1;have hltW:=Blk.lt hk1;have HBe:=qh λ w' (h:Below W.heap.size W w')=>hb1.trans (h.mono hb1.size)
 have HS:Hid (∀ w',Below W.heap.size W w'->w'.cell? ⟨w.heap.size,0,none⟩=some (.int .i64 most)/\w'.cell? ⟨w.heap.size,1,none⟩=some (.int .i64 st)):=qh λ w' h=>by
  have hk:=HK1.out.below h hltW;exact⟨hk.cell 0,hk.cell 1⟩
 have HS2:Hid (∀ w',Below W.heap.size W w'->w'.cell? ⟨w.heap.size,2,none⟩=some (.slice A l.length cap)):=qh λ w' h=>(HK1.out.below h hltW).cell 2
 have hi1:=y23 most (by omega);have hi2:=y23 st (by omega);have CI1:=qh λ w' (h:Below W.heap.size W w')=>(kR4 most (by omega) w' (HI.out w' (HBe.out w' h))).mono λ _ w'' q=>And.intro q.1 (h.trans (q.2.mono h.size))
 have CI2:=qh λ w' (h:Below W.heap.size W w')=>(kR4 st (by omega) w' (HI.out w' (HBe.out w' h))).mono λ _ w'' q=>And.intro q.1 (h.trans (q.2.mono h.size))
 have hHD:hdT most st=⟨#[115,99,111,114,101,32]⟩++itS most++⟨#[32]⟩++itS st++⟨#[10]⟩:=rfl;obtain⟨I1,hI1⟩:∃ x,x=itS most:=⟨_,rfl⟩;obtain⟨I2,hI2⟩:∃ x,x=itS st:=⟨_,rfl⟩;rw [<-hI1] at CI1 hHD hi1;rw [<-hI2] at CI2 hHD hi2;have HHD:=qh hHD;have z0:(ByteArray.mk #[115,99,111,114,101,32]).size=6:=rfl;have z9:(ByteArray.mk #[32]).size=1:=rfl;have z8:(ByteArray.mk #[10]).size=1:=rfl;have z1:¬9223372036854775807<6+I1.size:=by omega
 have z2:¬9223372036854775807<6+I1.size+1:=by omega
 have z3:¬9223372036854775807<6+I1.size+1+I2.size:=by omega
 have z4:¬9223372036854775807<6+I1.size+1+I2.size+1:=by omega
 clear hI1 hI2 hHD h0 hrp hb1 hk1 h hT hI hz;go_enter Tryz.func9,Tryz.ntmps9;go_upto_region 1 with fail;go_cut [3] from 14 to 23 (λ u wx=>u= .string (str (xj5 most st []))/\Hid (Below W.heap.size W wx))
 case first=>
  have b0:Below W.heap.size W W:=Below.refl _ _;have b1:Below W.heap.size W W.drew:=below_drewN b0 1
  go_region_held3 (λ w'=>w'.cell? ⟨w.heap.size,0,none⟩=some (.int .i64 most)/\w'.cell? ⟨w.heap.size,1,none⟩=some (.int .i64 st)) (exact HS.out _ (by assumption))
   (first
    |(go_at_call 27;(with_reducible refine(CI1.out _ (by assumption)).mono ?_);rintro e w' ⟨rfl,hb'⟩)
    |(go_at_call 27;(with_reducible refine(CI2.out _ (by assumption)).mono ?_);rintro e w' ⟨rfl,hb'⟩)
    |fail)
  all_goals
   have HS5:Hid (Below W.heap.size W _):=qh (by assumption);go_wp2_with fail;go_meet;exact⟨by rw [K94,HHD.out],HS5⟩
 case rest=>
  obtain⟨rfl,HB5⟩:=hcut;clear CI1 CI2 HS z0 z9 z8 z1 z2 z3 z4 hi1 hi2 HHD;go_wp2_with fail;go_loopw [3,4] (λ o u wr=>RtL most st l W o u wr) (λ _ u _=>l.length-(intOf u).toNat)
  case atStart=>exact RtL.mk (k:=0) rfl rfl (Nat.zero_le _) HB5
  case round=>
   obtain⟨k,rfl,rfl,hk,HL⟩:=hrel;obtain⟨wo,rfl⟩:∃ wo:World,wo=wr:=⟨_,rfl⟩;by_cases hlt:k<l.length
   . have k1:(k:Int)<(l.length:Int):=(by omega);have k0:(0:Int)<=(k:Int):=(by omega);have kw:IntKind.i64.wrap ((k:Int)+1)=(k:Int)+1:=IntWalk.i64_in _ (by omega);have hr:=List.getElem?_eq_getElem hlt;obtain⟨r,hre⟩:∃ r,r=l[k]:=⟨_,rfl⟩;rw [<-hre] at hr;have t2:=HS2.out wo HL.out;have hbw:=HBe.out _ HL.out;have HW:=H.out wo hbw;obtain⟨ad,rfl,had,x0,x1,x2,x3,x4,x5,x6,x7,x8⟩:=HW.at_ hr;have HM:=HW.ok r (List.mem_of_getElem? hr);have HRr:=HRP.out r (List.mem_of_getElem? hr);have hBw:=HW.hB;have hgk:(ad.add (k*9)).block<wo.heap.size:=World.block_lt_of_cell? _ _ x0;have htk:l.take (k+1)=l.take k++ [r]:=(by rw [List.take_succ_eq_append_getElem hlt,hre]);have hol:=k07 (w:=wo) (B:=B) (l:=l.take k) HZ.out λ x hx=>⟨HRP.out x (List.mem_of_mem_take hx),HW.ok x (List.mem_of_mem_take hx)⟩
     have hmn:(l.take k).length<=40:=by rw [List.length_take];exact Nat.le_trans (Nat.min_le_right _ _) hl1
     have hol2:(str (xj5 most st (l.take k))).size<=4000000000:=by
      rw [Xp5];have:=Nat.mul_le_mul_right 80000009 hmn;omega
     have hxs:=ZL9 HRr HM;have hJv:=kt4 HRr HM;have hJa:=Zc7 HRr HM;obtain⟨W4,hW4⟩:∃ W4,wo.alloc (.cells #[.int .i64 r.id,.int .i64 r.ph,.slice r.VA r.vs.length r.vc,.slice r.ZA r.zs.length r.zc,.bool r.no,.int .i64 r.op,.string r.arg,.slice r.XA r.xs.length r.xc,.bool r.ch] 44)=W4:=⟨_,rfl⟩;have hb4:Below wo.heap.size wo W4:=(by rw [<-hW4];exact(Below.refl _ _).alloc (Nat.le_refl _) _);have hk4:Blk W4 wo.heap.size 44 (Zn7 r).toArray:=(by rw [<-hW4];exact Blk.new _ _ _);have HM4:=qh (HM.below (hb4.mono hBw));have hB4:B<=W4.heap.size:=Nat.le_trans hBw hb4.size;have HWW:=qh (HL.out.trans (hb4.mono HL.out.size));have HK4:=qh hk4;have hlt4:=Blk.lt hk4;have HC:Hid (∀ w',Below W4.heap.size W4 w'->Blk w' wo.heap.size 44 (Zn7 r).toArray):=qh λ w' h=>HK4.out.below h hlt4
     have HMx:Hid (∀ w',Below W4.heap.size W4 w'->RuM w' B r):=qh λ w' h=>HM4.out.below (h.mono hB4)
     have HB9:=qh λ w' (h:Below W4.heap.size W4 w')=>HBe.out w' (HWW.out.trans (h.mono HWW.out.size))
     have CIa:=qh λ w' (h:Below W4.heap.size W4 w')=>(kR4 r.id HRr.id w' (HI.out w' (HB9.out w' h))).mono λ _ w'' q=>And.intro q.1 (h.trans (q.2.mono h.size))
     have CIb:=qh λ w' (h:Below W4.heap.size W4 w')=>(kR4 r.ph HRr.ph w' (HI.out w' (HB9.out w' h))).mono λ _ w'' q=>And.intro q.1 (h.trans (q.2.mono h.size))
     have HTK:=qh (show str (xj5 most st (l.take (k+1)))=str (xj5 most st (l.take k))++(jnS [wdB r.ch,itS r.id,itS r.ph,jnS (r.vs.map vTx) 44,str (xw9 r.zs),noB r.no++owB r.op,str (zj7 r.arg.data.toList),jnS (r.xs.map aTx) 44] 32++⟨#[10]⟩) from by rw [htk,Zy7];rfl);have hxs2:(jnS [wdB r.ch,itS r.id,itS r.ph,jnS (r.vs.map vTx) 44,str (xw9 r.zs),noB r.no++owB r.op,str (zj7 r.arg.data.toList),jnS (r.xs.map aTx) 44] 32).size<=80000008:=hxs;obtain⟨T,hTe⟩:∃ T,T=str (xj5 most st (l.take k)):=⟨_,rfl⟩;rw [<-hTe] at HTK hol2⊢;obtain⟨I1,hI1⟩:∃ x,x=itS r.id:=⟨_,rfl⟩;obtain⟨I2,hI2⟩:∃ x,x=itS r.ph:=⟨_,rfl⟩;obtain⟨P,hP⟩:∃ x,x=str (xw9 r.zs):=⟨_,rfl⟩;obtain⟨Q,hQ⟩:∃ x,x=str (zj7 r.arg.data.toList):=⟨_,rfl⟩;rw [<-hI1] at CIa HTK hxs2;rw [<-hI2] at CIb HTK hxs2;have HPQ:=qh (And.intro hP hQ);rw [<-hP,<-hQ] at HTK hxs2;have HRR:=qh HRr;have hrv:=HRr.vl;have hrx:=HRr.xl;have hro:=HRr.op;have hvc:=HM.vs.2;have hxc:=HM.xl;have hzc:=HM.zl;have hVn:r.vs.length<=9223372036854775807:=(by omega);clear hTe hI1 hI2 hP hQ hr hre hbw HW HM HRr htk hol hmn hxs hb4 hk4 hvc hxc hzc;go_upto_region 6 with fail;clear hW4 had x0 x1 x2 x3 x4 x5 x6 x7 x8 hgk t2;go_cut [6] from 36 to 42 (λ u wx=>∃ g,u= .slice (some ⟨g,0,none⟩) 3 3/\W4.heap.size<=g/\Hid (Blk wx g 9 #[.string ⟨#[114,117,108,101]⟩,.string I1,.string I2])/\Hid (Below W4.heap.size W4 wx))
     case first=>
      have HS4:Hid (∀ w',Below W4.heap.size W4 w'->w'.cell? ⟨wo.heap.size,0,none⟩=some (.int .i64 r.id)/\w'.cell? ⟨wo.heap.size,1,none⟩=some (.int .i64 r.ph)):=qh λ w' h=>⟨(HC.out w' h).cell 0,(HC.out w' h).cell 1⟩
      have HSA4:=qh λ w' (o:Obj) (h:Below W4.heap.size W4 w')=>HS4.out (w'.alloc o) (h.alloc h.size o)
      have b0:Below W4.heap.size W4 W4:=Below.refl _ _;have b1:Below W4.heap.size W4 W4.drew:=below_drewN b0 1
      go_region_held3 (λ w'=>w'.cell? ⟨wo.heap.size,0,none⟩=some (.int .i64 r.id)/\w'.cell? ⟨wo.heap.size,1,none⟩=some (.int .i64 r.ph)) (first|exact HS4.out _ (by assumption)|exact HSA4.out _ _ (by assumption))
       (first
        |(go_at_call 27;(with_reducible refine(CIa.out _ (by assumption)).mono ?_);rintro e w' ⟨rfl,hb'⟩)
        |(go_at_call 27;(with_reducible refine(CIb.out _ (by assumption)).mono ?_);rintro e w' ⟨rfl,hb'⟩)
        |fail)
      all_goals
       go_wp2_with fail;go_meet;refine⟨_,rfl,(by assumption:Below W4.heap.size W4 _).size,qh (Blk.new _ _ _),qh ?_⟩;exact Below.alloc (by assumption) (by assumption:Below W4.heap.size W4 _).size _
     case rest=>
      obtain⟨g,rfl,hgs,HG,HB5⟩:=hcut;clear CIa CIb;obtain⟨ch,hch⟩:∃ ch,ch=r.ch:=⟨_,rfl⟩;have t8:wc.cell? ⟨wo.heap.size,8,none⟩=some (.bool ch):=(by rw [hch];exact(HC.out _ HB5.out).cell 8);have hgl:=Blk.lt HG.out;obtain⟨W0,hW0⟩:∃ x,x=wdB r.ch:=⟨_,rfl⟩;rw [<-hW0] at HTK hxs2;rw [<-hch] at hW0;have HW0:=qh hW0;clear hW0 hch;obtain⟨wm,rfl⟩:∃ wm:World,wm=wc:=⟨_,rfl⟩;go_upto_if 44 with fail;go_cut [] from 45 to 46 (λ wx=>Hid (Blk wx g 9 #[.string W0,.string I1,.string I2])/\Hid (Below W4.heap.size W4 wx))
      case first=>
       have f0:=HG.out.frozen 0;have g0:=Blk.e0 HG.out;cases ch with
       |true=>
        have HWt:Hid (W0=⟨#[99,104,97,105,110]⟩):=qh (by rw [HW0.out];rfl);clear HW0;go_wp2_with fail;go_meet;exact⟨qh (by rw [HWt.out];exact HG.out.set_ 0 _),qh (HB5.out.setCell (p:=⟨g,0,none⟩) hgs _)⟩
       |false=>
        have HWt:Hid (W0=⟨#[114,117,108,101]⟩):=qh (by rw [HW0.out];rfl);clear HW0;go_wp2_with fail;go_meet;exact⟨qh (by rw [HWt.out];exact HG.out),HB5⟩
      case rest=>
       obtain⟨HG6,HB6⟩:=hcut;clear HG HB5 t8 HW0;obtain⟨W6,rfl⟩:∃ W6:World,W6=wc:=⟨_,rfl⟩;have HOg:=qh (Z13 HG6.out hgs);clear HG6 hgl;have HC6:Hid (∀ w',Below W6.heap.size W6 w'->Below W4.heap.size W4 w'):=qh λ w' h=>HB6.out.trans (h.mono HB6.out.size)
       have hB6:B<=W6.heap.size:=Nat.le_trans hB4 HB6.out.size;go_wp2_with fail;go_loopw [7,9] (λ v u wr2=>LpS W6.heap.size W6 (r.vs.map vTx) r.vs.length v u wr2) (λ _ u _=>r.vs.length-(intOf u).toNat)
       case atStart=>exact LpS.mk (j:=0) rfl (Nat.zero_le _) (qh (OS.nil _ _)) (qh (Below.refl _ _))
       case round=>
        obtain⟨j,A',c',rfl,rfl,hj,HO,HB⟩:=hrel;have HO:Hid (OS wr W6.heap.size (.slice A' j c') ((r.vs.take j).map vTx)):=qh (by rw [List.map_take];exact HO.out);have hC2:=HC6.out _ HB.out;have tv:=Blk.e2 (HC.out _ hC2);by_cases hlj:j<r.vs.length
        . have j1:(j:Int)<(r.vs.length:Int):=(by omega);have j0:(0:Int)<=(j:Int):=(by omega);have jw:IntKind.i64.wrap ((j:Int)+1)=(j:Int)+1:=IntWalk.i64_in _ (by omega);have hM2:=HMx.out _ hC2;obtain⟨va,hva,hvb,y0,y1,y2,hyn⟩:=hM2.vs.cells hlj;obtain⟨x,hx⟩:∃ x,x=r.vs[j]:=⟨_,rfl⟩;rw [<-hx] at y0 y1 y2 hyn;have hvg:(va.add (j*3)).block<wr.heap.size:=World.block_lt_of_cell? _ _ y0;have hgr:wo.heap.size<wr.heap.size:=Nat.lt_of_lt_of_le hlt4 hC2.size;have hmem:x∈r.vs:=(by rw [hx];exact List.getElem_mem hlj);obtain⟨hkk,hmm⟩:=HRR.out.vs x hmem;obtain⟨kk,hk2,hk3⟩:=Xg2 hkk;obtain⟨mm,hm2,hm3⟩:=Xg2 hmm;have tb:=(HT.out _ (HB9.out _ hC2)).v.get hk2 (by show kk<13;exact hk3);have hsv:=y91 hkk;have hsm:=jY3 hmm;have hVT:=xs1 x;have HT2:Hid ((r.vs.take (j+1)).map vTx=(r.vs.take j).map vTx++ [vTx x]/\((r.vs.take j).map vTx).length=j):=qh ⟨by rw [List.take_succ_eq_append_getElem hlj,List.map_append,hx];rfl,by rw [List.length_map,List.length_take];omega⟩;obtain⟨V,hV⟩:∃ V,wr.alloc (.cells #[.string ⟨#[]⟩,.string ⟨#[35]⟩,.string ⟨#[33]⟩] 9)=V:=⟨_,rfl⟩;have hbV:Below wr.heap.size wr V:=(by rw [<-hV];exact(Below.refl _ _).alloc (Nat.le_refl _) _);have tm:V.cell? ⟨wr.heap.size,mm,none⟩=some (.string (mdB x.m)):=(by rw [<-hV,hm2];exact zB3 (Blk.new _ _ _) hm3);have y1V:V.cell? ⟨(va.add (j*3)).block,(va.add (j*3)).off+1,none⟩=some (.int .i64 (mm:Int)):=(by rw [<-hm2];exact(hbV.cell (p:=⟨(va.add (j*3)).block,(va.add (j*3)).off+1,none⟩) hvg).trans y1);have tvV:V.cell? ⟨wo.heap.size,2,none⟩=some (.slice r.VA r.vs.length r.vc):=(hbV.cell (p:=⟨wo.heap.size,2,none⟩) hgr).trans tv;have HOV:Hid (OS V W6.heap.size (.slice A' j c') ((r.vs.take j).map vTx)):=qh (HO.out.kept hbV);have hzV:W6.heap.size<=V.heap.size:=Nat.le_trans HB.out.size hbV.size;have HBV:=qh (HB.out.trans (hbV.mono HB.out.size));rw [hk2] at y0;have kk1:(kk:Int)<13:=(by omega);have kk0:(0:Int)<=(kk:Int):=(by omega);have mm1:(mm:Int)<3:=(by omega);have mm0:(0:Int)<=(mm:Int):=(by omega);obtain⟨S,hS⟩:∃ S,S=vwB x.k:=⟨_,rfl⟩
          obtain⟨M,hM⟩:∃ M,M=mdB x.m:=⟨_,rfl⟩;rw [<-hM] at tm hsm;have tb2:wr.cell? ⟨0,kk,none⟩=some (.string S):=(by rw [hS];exact tb);rw [<-hS] at hsv;rw [<-hS,<-hM] at hVT;have HVT:=qh hVT;obtain⟨n,hn⟩:∃ n,n=x.n:=⟨_,rfl⟩;rw [<-hn] at y2 HVT hyn;have z2:¬9223372036854775807<1+n.size:=(by omega);have z3:¬9223372036854775807<S.size+(1+n.size):=(by omega);have z4:¬9223372036854775807<M.size+(S.size+(1+n.size)):=(by omega);have z5:¬9223372036854775807<M.size+S.size:=(by omega);have z6:(ByteArray.mk #[58]).size=1:=rfl;obtain⟨D,hD⟩:∃ D,D=(r.vs.take j).map vTx:=⟨_,rfl⟩;have hDl:D.length=j:=(by rw [hD];exact HT2.out.2);rw [<-hD] at HOV HT2;clear HO HB hM2 hx hmem hkk hmm hk2 hm2 tb hVT hbV y1 hS hM hn hD hyn hsv hsm hC2;subst hDl;by_cases hn0:n.size=0
          focus
           have q:n.toList.isEmpty=true:=(by rw [Lib.toList_data,List.isEmpty_iff];exact List.length_eq_zero_iff.1 (by rw [qX6];exact hn0));have HVX:Hid (vTx x=M++S):=qh (HVT.out.trans (by rw [if_pos hn0]));clear hn0 HVT;go_wp2_with (first|(at_builtin;refine jN8 rfl (.tmp 78) (.tmp 90) rfl HOV.out rfl (M++S) rfl (by omega) hzV ?_;intro v' w4 ho4 hg4 hb4;obtain⟨A4,c4,rfl⟩:=ho4.form;have HO4:=qh ho4;have HB4:=qh (HBV.out.trans hb4);clear ho4 hg4 hb4)|fail);have eL:(D++ [M++S]).length=D.length+1:=(by simp);rw [eL] at HO4
          rotate_left
          focus
           have q:n.toList.isEmpty=false:=(by rw [Lib.toList_data,List.isEmpty_eq_false_iff];intro e;have h1:=qX6 n;rw [e,List.length_nil] at h1;omega);have HVX:Hid (vTx x=M++(S++(⟨#[58]⟩++n))):=qh (HVT.out.trans (by rw [if_neg hn0];rfl));clear hn0 HVT;go_wp2_with (first|(at_builtin;refine jN8 rfl (.tmp 78) (.tmp 90) rfl HOV.out rfl _ rfl (by omega) hzV ?_;intro v' w4 ho4 hg4 hb4;obtain⟨A4,c4,rfl⟩:=ho4.form;have HO4:=qh ho4;have HB4:=qh (HBV.out.trans hb4);clear ho4 hg4 hb4)|fail);rw [List.length_append,List.length_singleton] at HO4
          all_goals
           go_roundw
           case rel=>exact LpS.mk (j:=D.length+1) (by omega) (by omega) (by rw [<-List.map_take,HT2.out.1,HVX.out];exact HO4) HB4
           case measure=>simp [intOf];omega
        . obtain rfl:j=r.vs.length:=(by omega);obtain⟨Wv,rfl⟩:∃ Wv:World,Wv=wr:=⟨_,rfl⟩;have HOv:Hid (OS Wv W6.heap.size (.slice A' r.vs.length c') (r.vs.map vTx)):=qh (by have h:=HO.out;first|exact h|(rw [List.take_length] at h;exact h));have HCv:Hid (∀ w',Below Wv.heap.size Wv w'->Below W4.heap.size W4 w'):=qh λ w' h=>hC2.trans (h.mono hC2.size)
          have HBv6:=HB;clear HO hC2 HB hlj;go_wp2_with fail;clear tv;go_loopw [8,11] (λ v u wr3=>LpS Wv.heap.size Wv (r.xs.map aTx) r.xs.length v u wr3) (λ _ u _=>r.xs.length-(intOf u).toNat)
          case atStart=>exact LpS.mk (j:=0) rfl (Nat.zero_le _) (qh (OS.nil _ _)) (qh (Below.refl _ _))
          case round=>
           obtain⟨i,A3,c3,rfl,rfl,hi,HO,HB⟩:=hrel;have HO:Hid (OS wr Wv.heap.size (.slice A3 i c3) ((r.xs.take i).map aTx)):=qh (by rw [List.map_take];exact HO.out);have hC3:=HCv.out _ HB.out;have tx:=Blk.e7 (HC.out _ hC3);by_cases hli:i<r.xs.length
           . have i1:(i:Int)<(r.xs.length:Int):=(by omega);have i0:(0:Int)<=(i:Int):=(by omega);have iw:IntKind.i64.wrap ((i:Int)+1)=(i:Int)+1:=IntWalk.i64_in _ (by omega);have hM2:=HMx.out _ hC3;obtain⟨va,hva,hvb,y0,y1⟩:=Zk6 hM2.xs hli;rw [hva] at tx;clear hva;obtain⟨x,hx⟩:∃ x,x=r.xs[i]:=⟨_,rfl⟩;rw [<-hx] at y0 y1;have hvg:(va.add (i*2)).block<wr.heap.size:=World.block_lt_of_cell? _ _ y0;have hmem:x∈r.xs:=(by rw [hx];exact List.getElem_mem hli);obtain⟨hkk,hnn⟩:=HRR.out.xs x hmem;obtain⟨kk,hk2,hk3⟩:=Xg2 (n:=6) hkk;have tb:=(HT.out _ (HB9.out _ hC3)).a.get hk2 (by show kk<6;exact hk3);have hsv:=y22 hkk;have hAT:=j33 x;have HT2:Hid ((r.xs.take (i+1)).map aTx=(r.xs.take i).map aTx++ [aTx x]/\((r.xs.take i).map aTx).length=i):=qh ⟨by rw [List.take_succ_eq_append_getElem hli,List.map_append,hx];rfl,by rw [List.length_map,List.length_take];omega⟩;rw [hk2] at y0;have kk1:(kk:Int)<6:=(by omega);have kk0:(0:Int)<=(kk:Int):=(by omega);obtain⟨S,hS⟩:∃ S,S=awB x.1:=⟨_,rfl⟩;have tb2:wr.cell? ⟨1,kk,none⟩=some (.string S):=(by rw [hS];exact tb);rw [<-hS] at hsv hAT;obtain⟨n,hn⟩:∃ n,n=x.2:=⟨_,rfl⟩;rw [<-hn] at y1 hAT hnn;have HAT:=qh hAT;have hzx:=HB.out.size;obtain⟨D,hD⟩:∃ D,D=(r.xs.take i).map aTx:=⟨_,rfl⟩;have hDl:D.length=i:=(by rw [hD];exact HT2.out.2);rw [<-hD] at HO HT2;clear hM2 hx hmem hkk hk2 tb hAT hS hn hD;subst hDl;by_cases hn0:0<n
             focus
              have q:decide ((0:Int)<n)=true:=decide_eq_true hn0;have hiz:=y23 n (by omega);have CI:=qh (kR4 n (by omega) wr (HI.out _ (HB9.out _ hC3)));have HAX:Hid (aTx x=S++(⟨#[58]⟩++itS n)):=qh (HAT.out.trans (by rw [if_pos hn0];rfl));obtain⟨I,hI⟩:∃ I,I=itS n:=⟨_,rfl⟩;rw [<-hI] at CI HAX hiz;have z2:¬9223372036854775807<1+I.size:=(by omega);have z3:¬9223372036854775807<S.size+(1+I.size):=(by omega);have z6:(ByteArray.mk #[58]).size=1:=rfl;clear hn0 HAT hI hiz hC3 hnn;go_wp2_with fail;refine CI.out.mono ?_;rintro e w5 ⟨rfl,b5⟩;have HO5:Hid (OS w5 Wv.heap.size (.slice A3 D.length c3) D):=qh (HO.out.kept b5);have HB5:=qh (HB.out.trans (b5.mono HB.out.size));have hz5:=HB5.out.size;clear b5 HO HB CI hzx;go_wp2_with (first|(at_builtin;refine jN8 rfl (.tmp 124) (.tmp 126) rfl HO5.out rfl _ rfl (by omega) hz5 ?_;intro v' w4 ho4 hg4 hb4;obtain⟨A4,c4,rfl⟩:=ho4.form;have HO4:=qh ho4;have HB4:=qh (HB5.out.trans hb4);clear ho4 hg4 hb4)|fail);rw [List.length_append,List.length_singleton] at HO4
             rotate_left
             focus
              have q:decide ((0:Int)<n)=false:=decide_eq_false hn0;have HAX:Hid (aTx x=S):=qh (HAT.out.trans (by rw [if_neg hn0]));clear hn0 HAT hC3 hnn;go_wp2_with (first|(at_builtin;refine jN8 rfl (.tmp 124) (.tmp 126) rfl HO.out rfl S rfl (by omega) hzx ?_;intro v' w4 ho4 hg4 hb4;obtain⟨A4,c4,rfl⟩:=ho4.form;have HO4:=qh ho4;have HB4:=qh (HB.out.trans hb4);clear ho4 hg4 hb4)|fail);have eL:(D++ [S]).length=D.length+1:=(by simp);rw [eL] at HO4
             all_goals
              go_roundw
              case rel=>exact LpS.mk (j:=D.length+1) (by omega) (by omega) (by rw [<-List.map_take,HT2.out.1,HAX.out];exact HO4) HB4
              case measure=>simp [intOf];omega
           . obtain rfl:i=r.xs.length:=(by omega);obtain⟨Wx,rfl⟩:∃ Wx:World,Wx=wr:=⟨_,rfl⟩;have HOx:Hid (OS Wx Wv.heap.size (.slice A3 r.xs.length c3) (r.xs.map aTx)):=qh (by have h:=HO.out;first|exact h|(rw [List.take_length] at h;exact h));have HOw:Hid (OS Wx W6.heap.size (.slice A' r.vs.length c') (r.vs.map vTx)):=qh (HOv.out.kept HB.out);have HOh:Hid (OS Wx W4.heap.size (.slice (some ⟨g,0,none⟩) 3 3) [W0,I1,I2]):=qh (HOg.out.kept (HBv6.out.trans (HB.out.mono HBv6.out.size)));have HCx:Hid (∀ w',Below Wx.heap.size Wx w'->Below W4.heap.size W4 w'):=qh λ w' h=>hC3.trans (h.mono hC3.size)
             have HLe:Hid (∀ w',Below Wx.heap.size Wx w'->W4.heap.size<=w'.heap.size):=qh λ w' h=>(HCx.out w' h).size
             obtain⟨kk,hk2,hk3⟩:=Xg2 (n:=13) hro;have tq:=(HT.out _ (HB9.out _ hC3)).o.get hk2 (by show kk<13;exact hk3);have t5:Wx.cell? ⟨wo.heap.size,5,none⟩=some (.int .i64 (kk:Int)):=(by rw [<-hk2];exact(HC.out _ hC3).cell 5);obtain⟨no,hno⟩:∃ no,no=r.no:=⟨_,rfl⟩;have t4:Wx.cell? ⟨wo.heap.size,4,none⟩=some (.bool no):=(by rw [hno];exact(HC.out _ hC3).cell 4);have kk1:(kk:Int)<13:=(by omega);have kk0:(0:Int)<=(kk:Int):=(by omega);have hso:=xL6 hro;obtain⟨S,hS⟩:∃ S,S=owB r.op:=⟨_,rfl⟩;have to2:Wx.cell? ⟨2,kk,none⟩=some (.string S):=(by rw [hS];exact tq);obtain⟨O,hO⟩:∃ O,O=noB r.no++owB r.op:=⟨_,rfl⟩;rw [<-hO] at HTK hxs2;rw [<-hS] at hO hso;rw [<-hno] at hO;have HO1:=qh hO;have z1:¬9223372036854775807<1+S.size:=(by omega);have z6:(ByteArray.mk #[33]).size=1:=rfl;clear HO HB HOv HOg HBv6 hk2 tq hS hO hC3 hli hno;go_upto_if 133 with fail;clear tx;go_cut [13] from 134 to 135 (λ u wx=>u= .string O/\Wx=wx)
             case first=>
              cases no
              focus
               have HOt:Hid (O=S):=qh (by rw [HO1.out];exact ByteArray.empty_append)
              rotate_left
              focus
               have HOt:Hid (O=⟨#[33]⟩++S):=qh (by rw [HO1.out];rfl)
              all_goals
               clear HO1;go_wp2_with fail;go_meet;exact⟨by rw [HOt.out],rfl⟩
             case rest=>
              obtain⟨rfl,rfl⟩:=hcut;clear HO1 t4 t5 to2;obtain⟨J1,hJ1⟩:∃ J,J=jnS (r.vs.map vTx) 44:=⟨_,rfl⟩;obtain⟨J2,hJ2⟩:∃ J,J=jnS (r.xs.map aTx) 44:=⟨_,rfl⟩;rw [<-hJ1] at HTK hxs2 hJv;rw [<-hJ2] at HTK hxs2 hJa
              have CJ1:Hid (∀ w',Below Wx.heap.size Wx w'->Calls Tryz.prog 28 #[.slice A' r.vs.length c',.string ⟨#[44]⟩] w' λ e w''=>e= .returned (.string J1)/\w''=w'):=qh λ w' h=>by
               have C:=z16 A' c' (r.vs.map vTx) ⟨#[44]⟩ w' W6.heap.size (by rw [List.length_map];exact HOw.out.kept h) (by show (Lib.join (dl (r.vs.map vTx)) [44]).length<=_;rw [yW0,<-hJ1];omega);rw [List.length_map] at C;exact C.mono λ _ _ q=>⟨q.1.trans (by rw [hJ1];rfl),q.2.symm⟩
              have CJ2:Hid (∀ w',Below Wx.heap.size Wx w'->Calls Tryz.prog 28 #[.slice A3 r.xs.length c3,.string ⟨#[44]⟩] w' λ e w''=>e= .returned (.string J2)/\w''=w'):=qh λ w' h=>by
               have C:=z16 A3 c3 (r.xs.map aTx) ⟨#[44]⟩ w' Wv.heap.size (by rw [List.length_map];exact HOx.out.kept h) (by show (Lib.join (dl (r.xs.map aTx)) [44]).length<=_;rw [yW0,<-hJ2];omega);rw [List.length_map] at C;exact C.mono λ _ _ q=>⟨q.1.trans (by rw [hJ2];rfl),q.2.symm⟩
              have CP:Hid (∀ w',Below Wx.heap.size Wx w'->Calls Tryz.prog 29 #[.slice r.ZA r.zs.length r.zc] w' λ e w''=>e= .returned (.string P)/\Below Wx.heap.size Wx w''):=qh λ w' h=>by
               have hM2:=HMx.out _ (HCx.out _ h);exact(ye2 r.zs r.ZA r.zc w' (Reads.more hM2.zs (Nat.le_trans hB4 (HLe.out _ h))) (HT.out _ (HB9.out _ (HCx.out _ h))).p HRR.out.zs).mono λ _ _ q=>⟨q.1.trans (by rw [HPQ.out.1]),h.trans (q.2.mono h.size)⟩
              have CQ:Hid (∀ w',Below Wx.heap.size Wx w'->Calls Tryz.prog 30 #[.string r.arg] w' λ e w''=>e= .returned (.string Q)/\Below Wx.heap.size Wx w''):=qh λ w' h=>(JJ0 r.arg w' HM4.out.ag).mono λ _ _ q=>⟨q.1.trans (by rw [HPQ.out.2]),h.trans (q.2.mono h.size)⟩
              have HSp:Hid (∀ w',Below Wx.heap.size Wx w'->w'.cell? ⟨wo.heap.size,3,none⟩=some (.slice r.ZA r.zs.length r.zc)/\w'.cell? ⟨wo.heap.size,6,none⟩=some (.string r.arg)):=qh λ w' h=>⟨(HC.out _ (HCx.out _ h)).cell 3,(HC.out _ (HCx.out _ h)).cell 6⟩
              have HOi:Hid (∀ w',Below Wx.heap.size Wx w'->OS w' W4.heap.size (.slice (some ⟨g,0,none⟩) 3 3) [W0,I1,I2]):=qh λ w' h=>HOh.out.kept h
              clear hJ1 hJ2 HOh HOw HOx;go_upto_region 27 with fail;go_cut [6] from 136 to 149 (λ u wx=>∃ A8 c8,u= .slice A8 8 c8/\Hid (OS wx W4.heap.size (.slice A8 8 c8) [W0,I1,I2,J1,P,O,Q,J2])/\Hid (Below W4.heap.size W4 wx))
              case first=>
               have b0:Below Wx.heap.size Wx Wx:=Below.refl _ _;have b1:Below Wx.heap.size Wx Wx.drew:=below_drewN b0 1;obtain⟨q0,q1⟩:=HSp.out _ b0
               go_region_law (first
                |(refine Zx5 rfl (.tmp 136) (.tmp 148) rfl (HOi.out _ (by assumption)) (HLe.out _ (by assumption)) (by rfl) (by rfl) ?_;intro A8 c8 w9 hO9 hB9;have hB10:=(HCx.out _ (by assumption)).trans hB9)
                |(go_simp;go_at_call 28;(with_reducible refine(CJ1.out _ (by assumption)).mono ?_);rintro e w' ⟨rfl,rfl⟩)
                |(go_simp;go_at_call 29;(with_reducible refine(CP.out _ (by assumption)).mono ?_);rintro e w' ⟨rfl,hb'⟩;obtain⟨q3,q4⟩:=HSp.out _ hb')
                |(go_simp;go_at_call 30;(with_reducible refine(CQ.out _ (by assumption)).mono ?_);rintro e w' ⟨rfl,hb'⟩;obtain⟨q3,q4⟩:=HSp.out _ hb')
                |(go_simp;go_at_call 28;(with_reducible refine(CJ2.out _ (by assumption)).mono ?_);rintro e w' ⟨rfl,rfl⟩))
               all_goals
                go_wp2_with fail;go_meet;exact⟨A8,c8,rfl,qh hO9,qh hB10⟩
              case rest=>
               obtain⟨A8,c8,rfl,HO8,HB8⟩:=hcut;obtain⟨X,hX⟩:∃ X,X=jnS [W0,I1,I2,J1,P,O,Q,J2] 32:=⟨_,rfl⟩;rw [<-hX] at HTK hxs2
               have CJX:Hid (Calls Tryz.prog 28 #[.slice A8 8 c8,.string ⟨#[32]⟩] wc λ e w''=>e= .returned (.string X)/\w''=wc):=qh (by
                have C:=z16 A8 c8 [W0,I1,I2,J1,P,O,Q,J2] ⟨#[32]⟩ wc W4.heap.size HO8.out (by show (Lib.join (dl _) [32]).length<=_;rw [yW0,<-hX];omega);exact C.mono λ _ _ q=>⟨q.1.trans (by rw [hX];rfl),q.2.symm⟩)
               have HBW:Hid (Below W.heap.size W wc):=qh (HWW.out.trans (HB8.out.mono HWW.out.size));have z7:(ByteArray.mk #[10]).size=1:=rfl;have y1:¬9223372036854775807<X.size+1:=(by omega);have y2:¬9223372036854775807<T.size+(X.size+1):=(by omega);clear hX CJ1 CJ2 CP CQ HSp HOi HO8 HB8 hxs2 hol2;go_wp2_with fail;refine CJX.out.mono ?_;rintro e w10 ⟨rfl,rfl⟩;go_wp2_with fail;go_roundw
               case rel=>exact RtL.mk (k:=k+1) (by omega) (by rw [HTK.out]) (by omega) HBW
               case measure=>simp [intOf];omega
   . obtain rfl:k=l.length:=(by omega);rw [List.take_length];have t2:=HS2.out wo HL.out;clear hlt;go_wp2_with fail;go_ret;exact⟨rfl,HBe.out _ HL.out⟩
end
end Go.Proofs.YtngepacmgabmaaaGreatDoor
