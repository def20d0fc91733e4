/- Walks: slices.Equal over variables, ints, acts; slices.EqualFunc over rules; wickref.SameRules. -/
import Derived.Test.YtngepacmgabmaaaGreatDoorGao
namespace Go.Proofs.YtngepacmgabmaaaGreatDoor
open Go.RowKit
set_option linter.unusedVariables false
set_option linter.unusedSimpArgs false
section
variable {A A':Option Addr} {c c' B B':Nat} {w:World}
set_option maxHeartbeats 1000000 in
theorem zc3 (l:List Vr) (hl:l.length<=9223372036854775807) (h:Reads w B 3 A l.length (l.flatMap zl0)) (h':Reads w B' 3 A' l.length (l.flatMap zl0)):
 Calls Tryz.prog 22 #[.slice A l.length c,.slice A' l.length c'] w λ e w'=>e= .returned (.bool true)/\Below w.heap.size w w':=by
 have hb0:((l.length:Int) !=(l.length:Int))=false:=by simp
 have H:=qh h;have H':=qh h';clear h h';go_enter Tryz.func22,Tryz.ntmps22;go_wp2_with fail;go_loopw [13] (λ i wr=>∃ k q:Nat,k<=l.length/\i= .int .i64 k/\wr=w.drewN q) (λ i _=>l.length-(intOf i).toNat)
 case atStart=>exact⟨0,0,by omega,rfl,rfl⟩
 case round=>
  obtain⟨k,q,hk,rfl,rfl⟩:=hrel;by_cases hlt:k<l.length
  . have hu:=List.getElem?_eq_getElem hlt;obtain⟨x,hx⟩:∃ x,l[k]=x:=⟨_,rfl⟩;rw [hx] at hu;obtain⟨ad,rfl,_,x0,h1⟩:=Xs0 (cs:=zl0) (sz:=3) (λ _=>rfl) H.out hu;obtain⟨ad',rfl,_,y0,g1⟩:=Xs0 (cs:=zl0) (sz:=3) (λ _=>rfl) H'.out hu;replace x0:=x0 _ rfl;replace y0:=y0 _ rfl;have x1:=h1 1 _ (by decide) rfl;have x2:=h1 2 _ (by decide) rfl;have y1:=g1 1 _ (by decide) rfl;have y2:=g1 2 _ (by decide) rfl;clear h1 g1;have k1:(k:Int)<(l.length:Int):=(by omega);have k0:(0:Int)<=(k:Int):=(by omega);have kw:IntKind.i64.wrap ((k:Int)+1)=(k:Int)+1:=IntWalk.i64_in _ (by omega);clear hu hx;go_wp2_with fail;go_quiet (fail)
    go_wp2_with fail;go_roundw
    case rel=>exact⟨k+1,_,by omega,by go_num,rfl⟩
    case measure=>simp [intOf];omega
  . obtain rfl:k=l.length:=(by omega);go_wp2_with fail;go_ret;exact⟨rfl,below_drewN (Below.refl _ _) q⟩
set_option maxHeartbeats 1000000 in
theorem Jz8 (l:List Int) (hl:l.length<=9223372036854775807) (h:Reads w B 1 A l.length (l.map (Value.int .i64))) (h':Reads w B' 1 A' l.length (l.map (Value.int .i64))):
 Calls Tryz.prog 23 #[.slice A l.length c,.slice A' l.length c'] w λ e w'=>e= .returned (.bool true)/\Below w.heap.size w w':=by
 have hb0:((l.length:Int) !=(l.length:Int))=false:=by simp
 have H:=qh h;have H':=qh h';clear h h';go_enter Tryz.func23,Tryz.ntmps23;go_wp2_with fail;go_loopw [13] (λ i wr=>∃ k q:Nat,k<=l.length/\i= .int .i64 k/\wr=w.drewN q) (λ i _=>l.length-(intOf i).toNat)
 case atStart=>exact⟨0,0,by omega,rfl,rfl⟩
 case round=>
  obtain⟨k,q,hk,rfl,rfl⟩:=hrel;by_cases hlt:k<l.length
  . have hu:=List.getElem?_eq_getElem hlt;obtain⟨x,hx⟩:∃ x,l[k]=x:=⟨_,rfl⟩;rw [hx] at hu;have hz:(l.map (Value.int .i64))[k]? =some (.int .i64 x):=(by rw [List.getElem?_map,hu];rfl);obtain⟨ad,rfl,_,h1⟩:=H.out.2 (by omega);obtain⟨ad',rfl,_,g1⟩:=H'.out.2 (by omega);have x0:=h1 _ _ hz;have y0:=g1 _ _ hz;have e0:(x !=x)=false:=(by simp);clear h1 g1 hz;have k1:(k:Int)<(l.length:Int):=(by omega);have k0:(0:Int)<=(k:Int):=(by omega);have kw:IntKind.i64.wrap ((k:Int)+1)=(k:Int)+1:=IntWalk.i64_in _ (by omega);clear hu hx;go_wp2_with fail;go_quiet (fail)
    go_wp2_with fail;go_roundw
    case rel=>exact⟨k+1,_,by omega,by go_num,rfl⟩
    case measure=>simp [intOf];omega
  . obtain rfl:k=l.length:=(by omega);go_wp2_with fail;go_ret;exact⟨rfl,below_drewN (Below.refl _ _) q⟩
set_option maxHeartbeats 1000000 in
theorem kJ5 (l:List (Int×Int)) (hl:l.length<=9223372036854775807) (h:Reads w B 2 A l.length (l.flatMap jQ1)) (h':Reads w B' 2 A' l.length (l.flatMap jQ1)):
 Calls Tryz.prog 24 #[.slice A l.length c,.slice A' l.length c'] w λ e w'=>e= .returned (.bool true)/\Below w.heap.size w w':=by
 have hb0:((l.length:Int) !=(l.length:Int))=false:=by simp
 have H:=qh h;have H':=qh h';clear h h';go_enter Tryz.func24,Tryz.ntmps24;go_wp2_with fail;go_loopw [13] (λ i wr=>∃ k q:Nat,k<=l.length/\i= .int .i64 k/\wr=w.drewN q) (λ i _=>l.length-(intOf i).toNat)
 case atStart=>exact⟨0,0,by omega,rfl,rfl⟩
 case round=>
  obtain⟨k,q,hk,rfl,rfl⟩:=hrel;by_cases hlt:k<l.length
  . have hu:=List.getElem?_eq_getElem hlt;obtain⟨x,hx⟩:∃ x,l[k]=x:=⟨_,rfl⟩;rw [hx] at hu;obtain⟨ad,rfl,_,x0,h1⟩:=Xs0 (cs:=jQ1) (sz:=2) (λ _=>rfl) H.out hu;obtain⟨ad',rfl,_,y0,g1⟩:=Xs0 (cs:=jQ1) (sz:=2) (λ _=>rfl) H'.out hu;replace x0:=x0 _ rfl;replace y0:=y0 _ rfl;have x1:=h1 1 _ (by decide) rfl;have y1:=g1 1 _ (by decide) rfl;clear h1 g1;have k1:(k:Int)<(l.length:Int):=(by omega);have k0:(0:Int)<=(k:Int):=(by omega);have kw:IntKind.i64.wrap ((k:Int)+1)=(k:Int)+1:=IntWalk.i64_in _ (by omega);clear hu hx;go_wp2_with fail;go_quiet (fail)
    go_wp2_with fail;go_roundw
    case rel=>exact⟨k+1,_,by omega,by go_num,rfl⟩
    case measure=>simp [intOf];omega
  . obtain rfl:k=l.length:=(by omega);go_wp2_with fail;go_ret;exact⟨rfl,below_drewN (Below.refl _ _) q⟩
theorem yH2 {r r':Ru} (h:bare r=bare r'):r'=⟨r.id,r.ph,r.vs,r.zs,r.no,r.op,r.arg,r.xs,r.ch,r'.VA,r'.vc,r'.ZA,r'.zc,r'.XA,r'.xc⟩:=by
 cases r;cases r';unfold bare at h;injection h
 subst_vars
 rfl
set_option maxRecDepth 100000 in
set_option maxHeartbeats 4000000 in
theorem Z19 {r r':Ru} (hb:bare r=bare r') (hB:B<=w.heap.size) (hB':B'<=w.heap.size) (h:RuM w B r) (h':RuM w B' r'):
 Calls Tryz.prog 21 #[.agg (Zn7 r).toArray,.agg (Zn7 r').toArray] w λ e w'=>e= .returned (.bool true)/\Below w.heap.size w w':=by
 have he:=yH2 hb;obtain⟨id,ph,vs,zs,no,op,arg,xs,ch,VA,vc,ZA,zc,XA,xc⟩:=r;obtain⟨i2,p2,vs2,zs2,no2,op2,arg2,xs2,ch2,VA',vc',ZA',zc',XA',xc'⟩:=r';injection he
 subst_vars
 have C1:=qh λ W (hb:Below w.heap.size w W)=>zc3 (c:=vc) (c':=vc') vs (Nat.le_trans h.vs.2.1 h.vs.2.2.1) ((h.below (hb.mono hB)).vs.1) ((h'.below (hb.mono hB')).vs.1)
 have C2:=qh λ W (hb:Below w.heap.size w W)=>Jz8 (c:=zc) (c':=zc') zs (Nat.le_trans h.zl.1 h.zl.2) ((h.below (hb.mono hB)).zs) ((h'.below (hb.mono hB')).zs)
 have C3:=qh λ W (hb:Below w.heap.size w W)=>kJ5 (c:=xc) (c':=xc') xs (Nat.le_trans h.xl.1 h.xl.2) ((h.below (hb.mono hB)).xs) ((h'.below (hb.mono hB')).xs)
 dsimp only at C1 C2 C3;have e1:(id==id)=true:=by simp
 have e2:(ph==ph)=true:=by simp
 have e3:(no==no)=true:=by simp
 have e4:(op==op)=true:=by simp
 have e5:(arg.toList==arg.toList)=true:=by simp
 have e6:(ch==ch)=true:=by simp
 clear h h' hb hB hB';go_enter Tryz.func21,Tryz.ntmps21;go_upto_region 1 with fail;obtain⟨W2,hW2⟩:∃ W2,((w.alloc (.cells #[.int .i64 id,.int .i64 ph,.slice VA vs.length vc,.slice ZA zs.length zc,.bool no,.int .i64 op,.string arg,.slice XA xs.length xc,.bool ch] 44)).alloc (.cells #[.int .i64 id,.int .i64 ph,.slice VA' vs.length vc',.slice ZA' zs.length zc',.bool no,.int .i64 op,.string arg,.slice XA' xs.length xc',.bool ch] 44))=W2:=⟨_,rfl⟩;have hk1:Blk W2 w.heap.size 44 (Zn7 ⟨id,ph,vs,zs,no,op,arg,xs,ch,VA,vc,ZA,zc,XA,xc⟩).toArray:=by rw [<-hW2];exact Blk.alloc (Blk.new _ _ _) _
 have hk2:Blk W2 (w.heap.size+1) 44 (Zn7 ⟨id,ph,vs,zs,no,op,arg,xs,ch,VA',vc',ZA',zc',XA',xc'⟩).toArray:=by
  rw [<-hW2];have:=Blk.new (w.alloc (.cells #[.int .i64 id,.int .i64 ph,.slice VA vs.length vc,.slice ZA zs.length zc,.bool no,.int .i64 op,.string arg,.slice XA xs.length xc,.bool ch] 44)) 44 (Zn7 ⟨id,ph,vs,zs,no,op,arg,xs,ch,VA',vc',ZA',zc',XA',xc'⟩).toArray;have e:(w.alloc (.cells #[.int .i64 id,.int .i64 ph,.slice VA vs.length vc,.slice ZA zs.length zc,.bool no,.int .i64 op,.string arg,.slice XA xs.length xc,.bool ch] 44)).heap.size=w.heap.size+1:=Array.size_push _;rw [e] at this;exact this
 have hb2:Below w.heap.size w W2:=by rw [<-hW2];exact((Below.refl _ _).alloc (Nat.le_refl _) _).alloc (by simp) _
 rw [hW2];have HK1:=qh hk1;have HK2:=qh hk2;have HB2:=qh hb2;clear hW2 hk1 hk2 hb2;obtain⟨t0,t1,t2,_,_,_,_,_,_⟩:=z19 HK1.out;obtain⟨u0,u1,u2,_,_,_,_,_,_⟩:=z19 HK2.out;dsimp only at t0 t1 t2 u0 u1 u2;go_wp2_with fail;refine(C1.out _ HB2.out).mono ?_;rintro e w3 ⟨rfl,b3⟩;have HK3:=qh (HK1.out.below b3 (Blk.lt HK1.out));have HK4:=qh (HK2.out.below b3 (Blk.lt HK2.out));have HB3:=qh (HB2.out.trans (b3.mono HB2.out.size));clear b3 t0 t1 t2 u0 u1 u2 HK1 HK2 HB2 C1;obtain⟨_,_,_,t3,_,_,_,_,_⟩:=z19 HK3.out;obtain⟨_,_,_,u3,_,_,_,_,_⟩:=z19 HK4.out;dsimp only at t3 u3;go_wp2_with fail;refine(C2.out _ HB3.out).mono ?_;rintro e w4 ⟨rfl,b3⟩;have HK5:=qh (HK3.out.below b3 (Blk.lt HK3.out));have HK6:=qh (HK4.out.below b3 (Blk.lt HK4.out));have HB4:=qh (HB3.out.trans (b3.mono HB3.out.size));clear b3 t3 u3 HK3 HK4 HB3 C2;obtain⟨_,_,_,_,t4,t5,t6,t7,_⟩:=z19 HK5.out;obtain⟨_,_,_,_,u4,u5,u6,u7,_⟩:=z19 HK6.out;dsimp only at t4 t5 t6 t7 u4 u5 u6 u7;go_wp2_with fail;refine(C3.out _ HB4.out).mono ?_;rintro e w5 ⟨rfl,b3⟩;have HK7:=qh (HK5.out.below b3 (Blk.lt HK5.out));have HK8:=qh (HK6.out.below b3 (Blk.lt HK6.out));have HB5:=qh (HB4.out.trans (b3.mono HB4.out.size));clear b3 t4 t5 t6 t7 u4 u5 u6 u7 HK5 HK6 HB4 C3;obtain⟨_,_,_,_,_,_,_,_,t8⟩:=z19 HK7.out;obtain⟨_,_,_,_,_,_,_,_,u8⟩:=z19 HK8.out;dsimp only at t8 u8;go_wp2_with fail;go_ret;exact⟨rfl,HB5.out⟩
set_option maxHeartbeats 4000000 in
theorem KU0 {l l':List Ru} (hb:l.map bare=l'.map bare) (h:RuR w B A c l) (h':RuR w B' A' c' l'):
 Calls Tryz.prog 20 #[.slice A l.length c,.slice A' l'.length c',.func (.func 21) #[] #[]] w λ e w'=>e= .returned (.bool true)/\Below w.heap.size w w':=by
 have hll:l'.length=l.length:=by have:=congrArg List.length hb;rw [List.length_map,List.length_map] at this;exact this.symm
 rw [hll];have hb0:((l.length:Int) !=(l.length:Int))=false:=by simp
 have hl9:l.length<=9223372036854775807:=Nat.le_trans h.hc.1 h.hc.2;have H:=qh h;have H':=qh h';have HBB:=qh hb;have HLL:=qh hll;clear h h' hb hll;go_enter Tryz.func20,Tryz.ntmps20;go_wp2_with fail;go_loopw [17] (λ i wr=>∃ k:Nat,k<=l.length/\i= .int .i64 (k:Int)/\Below w.heap.size w wr) (λ i _=>l.length-(intOf i).toNat)
 case atStart=>exact⟨0,by omega,rfl,Below.refl _ _⟩
 case round=>
  obtain⟨k,hk,rfl,hb⟩:=hrel;by_cases hlt:k<l.length
  . have i1:(k:Int)<(l.length:Int):=(by omega);have i0:(0:Int)<=(k:Int):=(by omega);have iw:IntKind.i64.wrap ((k:Int)+1)=(k:Int)+1:=IntWalk.i64_in _ (by omega);have hlt':k<l'.length:=(by rw [HLL.out];exact hlt);obtain⟨r,hr⟩:∃ r,l[k]? =some r:=⟨_,List.getElem?_eq_getElem hlt⟩;obtain⟨r',hr'⟩:∃ r,l'[k]? =some r:=⟨_,List.getElem?_eq_getElem hlt'⟩
    have hbr:bare r=bare r':=by
     have h1:(l.map bare)[k]? =some (bare r):=(by rw [List.getElem?_map,hr];rfl);have h2:(l'.map bare)[k]? =some (bare r'):=(by rw [List.getElem?_map,hr'];rfl);rw [HBB.out,h2] at h1;exact(Option.some.inj h1).symm
    have HW:=H.out.kept hb;have HW':=H'.out.kept hb;obtain⟨ad,rfl,had,x0,x1,x2,x3,x4,x5,x6,x7,x8⟩:=HW.at_ hr;obtain⟨ad',rfl,had',y0,y1,y2,y3,y4,y5,y6,y7,y8⟩:=HW'.at_ hr';have HM:=qh (HW.ok r (List.mem_of_getElem? hr));have HM':=qh (HW'.ok r' (List.mem_of_getElem? hr'));have HB:=qh hb;have HBR:=qh hbr;have hz1:=HW.hB;have hz2:=HW'.hB;have hgw:ad.block<wr.heap.size:=(by omega);have hgw':ad'.block<wr.heap.size:=(by omega);clear hb hbr hr hr' HW HW' hlt' hk;have hgk:(ad.add (k*9)).block<wr.heap.size:=(by rw [ZE9];exact hgw);have hgk':(ad'.add (k*9)).block<wr.heap.size:=(by rw [ZE9];exact hgw');go_wp2_with fail;have hb2:∀ o o':Obj,Below wr.heap.size wr ((wr.alloc o).alloc o'):=λ o o'=>((Below.refl _ _).alloc (Nat.le_refl _) _).alloc (by simp) _
    refine(Z19 HBR.out (Nat.le_trans hz1 (hb2 _ _).size) (Nat.le_trans hz2 (hb2 _ _).size) (HM.out.below ((hb2 _ _).mono hz1)) (HM'.out.below ((hb2 _ _).mono hz2))).mono ?_;rintro e w1 ⟨rfl,b1⟩;have HB1:=qh ((HB.out.trans ((hb2 _ _).mono HB.out.size)).trans (b1.mono (Nat.le_trans HB.out.size (hb2 _ _).size)));clear b1 hb2;go_wp2_with fail;go_roundw
    case rel=>exact⟨k+1,by omega,by go_num,HB1.out⟩
    case measure=>simp [intOf];omega
  . obtain rfl:k=l.length:=(by omega);have HB:=qh hb;clear hb hlt;go_wp2_with fail;go_ret;exact⟨rfl,HB.out⟩
set_option maxHeartbeats 4000000 in
theorem JB7 (most st:Int) {l l':List Ru} (hb:l.map bare=l'.map bare) (h:RuR w B A c l) (h':RuR w B' A' c' l'):
 Calls Tryz.prog 7 #[.agg #[.int .i64 most,.int .i64 st,.slice A l.length c],.agg #[.int .i64 most,.int .i64 st,.slice A' l'.length c']] w λ e w'=>e= .returned (.bool true)/\Below w.heap.size w w':=by
 have C:=qh λ W (hw:Below w.heap.size w W)=>KU0 hb (h.kept hw) (h'.kept hw)
 have e1:(most==most)=true:=by simp
 have e2:(st==st)=true:=by simp
 clear h h' hb;go_enter Tryz.func7,Tryz.ntmps7;go_wp2_with fail;have hb2:∀ o o':Obj,Below w.heap.size w ((w.alloc o).alloc o'):=λ o o'=>((Below.refl _ _).alloc (Nat.le_refl _) _).alloc (by simp) _
 refine(C.out _ (hb2 _ _)).mono ?_;rintro e w1 ⟨rfl,b1⟩;have HB:=qh ((hb2 _ _).trans (b1.mono (hb2 _ _).size));clear b1 hb2;go_wp2_with fail;go_ret;exact⟨rfl,HB.out⟩
end
end Go.Proofs.YtngepacmgabmaaaGreatDoor
