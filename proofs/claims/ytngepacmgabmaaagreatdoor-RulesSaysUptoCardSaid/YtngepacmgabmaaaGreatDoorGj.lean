/- Walk: rules.Check, given what rules.arg ; strings.Builder: copyCheck, WriteString  .. -/
import Derived.Test.YtngepacmgabmaaaGreatDoorGi
import Derived.Lib.Slices
import Derived.Lib.Walk
import Derived.Lib.Builder
import Derived.Lib.AppendStr
import Derived.Laws.Externs
import Derived.Test.YtngepacmgabmaaaGreatDoorGh
namespace Go.Proofs.YtngepacmgabmaaaGreatDoor
open Go.RowKit
set_option linter.unusedVariables false
set_option linter.unusedSimpArgs false
theorem RuR.take {w:World} {B:Nat} {A:Option Addr} {cap:Nat} {l:List Ru} (h:RuR w B A cap l) {k:Nat} (hk:k<=l.length):RuR w B A cap (l.take k):=by
 have hl:(l.take k).length=k:=by rw [List.length_take,Nat.min_eq_left hk]
 refine⟨⟨KK8 (sz:=9) (λ _=>rfl) _,λ h0=> ?_⟩,h.hB,⟨by rw [hl];exact Nat.le_trans hk h.hc.1,h.hc.2⟩,λ r hr=>h.ok r (List.mem_of_mem_take hr)⟩;obtain⟨ad,e,hb,hc⟩:=h.rd.2 (by omega);refine⟨ad,e,hb,λ j u hu=>hc j u ?_⟩;have e2:l.flatMap Zn7=(l.take k).flatMap Zn7++(l.drop k).flatMap Zn7:=by rw [<-List.flatMap_append,List.take_append_drop]
 rw [e2,List.getElem?_append_left (List.getElem?_eq_some_iff.1 hu).1];exact hu
theorem KA9 {AE:Int->ByteArray->Int} {l:List Ru} {k:Nat} {r:Ru} (h:r.id<1\/9999<r.id\/¬(r.ph=1\/r.ph=2)):Zh1 AE l k r=1:=if_pos h
theorem ZK8 {AE:Int->ByteArray->Int} {l:List Ru} {k:Nat} {r:Ru} (h:¬(r.id<1\/9999<r.id\/¬(r.ph=1\/r.ph=2))) (h2:(l.take k).any (idB r.id)=true):Zh1 AE l k r=9:=by
 unfold Zh1;rw [if_neg h];exact if_pos h2
theorem Za2 {AE:Int->ByteArray->Int} {l:List Ru} {k:Nat} {r:Ru} (h:¬(r.id<1\/9999<r.id\/¬(r.ph=1\/r.ph=2))) (h2:(l.take k).any (idB r.id)=false):Zh1 AE l k r=x79 AE r:=by
 unfold Zh1;rw [if_neg h];exact if_neg (by show ¬(l.take k).any (idB r.id)=true;rw [h2];decide)
section
variable (AE:Int->ByteArray->Int) (most st:Int) (l:List Ru) (A:Option Addr) (cap B:Nat) (w:World)
set_option maxRecDepth 100000 in
set_option maxHeartbeats 8000000 in
theorem kC7 (h:RuR w B A cap l) (hA:ArgOk 72 AE w):
 Calls Tryz.prog 11 #[.agg #[.int .i64 most,.int .i64 st,.slice A l.length cap]] w λ e w'=>e= .returned (.int .i64 (QR3 AE most st l))/\Below w.heap.size w w':=by
 obtain⟨hlc,hcc⟩:=h.hc;obtain⟨R,hR⟩:∃ R,R=QR3 AE most st l:=⟨_,rfl⟩;rw [<-hR];unfold QR3 at hR;have H:=qh h;have hBw:=h.hB;have HA:=qh hA;clear h hA;have hba:∀ o:Obj,Below w.heap.size w (w.alloc o):=λ o=>(Below.refl _ _).alloc (Nat.le_refl _) _
 have HBA:=qh hba;clear hba;by_cases g1:most<1\/1000000<most\/st<400\/599<st
 . have HR:Hid (R=1):=qh (by rw [hR,if_pos g1]);clear hR;have hc:most<1\/(¬most<1/\1000000<most)\/(¬most<1/\¬1000000<most/\st<400)\/(¬most<1/\¬1000000<most/\¬st<400/\599<st):=(by omega);clear g1;rcases hc with c1|⟨c1,c2⟩|⟨c1,c2,c3⟩|⟨c1,c2,c3,c4⟩
   all_goals
    go_enter Tryz.func11,Tryz.ntmps11;go_wp2_with fail;go_ret;exact⟨by rw [HR.out];rfl,HBA.out _⟩
 rw [if_neg g1] at hR;have c1:¬most<1:=by omega
 have c2:¬1000000<most:=by omega
 have c3:¬st<400:=by omega
 have c4:¬599<st:=by omega
 clear g1;by_cases g2:40<l.length
 . have HR:Hid (R=2):=qh (by rw [hR,if_pos g2]);have d1:(40:Int)<(l.length:Int):=(by omega);clear hR;go_enter Tryz.func11,Tryz.ntmps11;go_wp2_with fail;go_ret;exact⟨by rw [HR.out];rfl,HBA.out _⟩
 rw [if_neg g2] at hR;have d1:¬(40:Int)<(l.length:Int):=by omega
 have hl40:l.length<=40:=by omega
 clear g2;obtain⟨F,hF⟩:∃ F,F=frE AE l l 0:=⟨_,rfl⟩;obtain⟨C,hC⟩:∃ C,C=chL l l 0:=⟨_,rfl⟩;rw [<-hF,<-hC] at hR;have HRF:=qh hR;have HF0:Hid (F=frE AE l (l.drop 0) 0):=qh hF;have HC0:Hid (C=chL l (l.drop 0) 0):=qh hC;clear hR hF hC;go_enter Tryz.func11,Tryz.ntmps11;go_wp2_with fail;obtain⟨W0,hW0⟩:∃ W0,w.alloc (.cells #[.int .i64 most,.int .i64 st,.slice A l.length cap] 24)=W0:=⟨_,rfl⟩;have hk0:Blk W0 w.heap.size 24 #[.int .i64 most,.int .i64 st,.slice A l.length cap]:=by rw [<-hW0];exact Blk.new _ _ _
 have HB0:Hid (Below w.heap.size w W0):=qh (by rw [<-hW0];exact HBA.out _);rw [hW0];have HK0:=qh hk0;have hlt0:w.heap.size<W0.heap.size:=Blk.lt hk0;clear hW0 hk0 HBA;go_loopw [33] (λ u wr=>∃ k:Nat,u= .int .i64 (k:Int)/\k<=l.length/\Hid (F=frE AE l (l.drop k) k)/\Hid (Below W0.heap.size W0 wr)) (λ u _=>l.length-(intOf u).toNat)
 case atStart=>exact⟨0,rfl,Nat.zero_le _,HF0,qh (Below.refl _ _)⟩
 case round=>
  clear HF0;obtain⟨k,rfl,hk,HF,HB⟩:=hrel;have x2:=Blk.e2 (HK0.out.below HB.out hlt0);have hltr:w.heap.size<wr.heap.size:=Nat.lt_of_lt_of_le hlt0 HB.out.size;by_cases hlk:k<l.length
  . have k1:(k:Int)<(l.length:Int):=(by omega);have k0:(0:Int)<=(k:Int):=(by omega);have kw:IntKind.i64.wrap ((k:Int)+1)=(k:Int)+1:=IntWalk.i64_in _ (by omega);have kc:(k:Int)<=(cap:Int):=(by omega);have hBw2:Below w.heap.size w wr:=HB0.out.trans (HB.out.mono (Nat.le_of_lt hlt0));have HBw2:=qh hBw2;have hRr:=H.out.below (hBw2.mono hBw);have HRr:=qh hRr;have hBr:=hRr.hB;obtain⟨r,hr⟩:∃ r,l[k]? =some r:=⟨_,List.getElem?_eq_getElem hlk⟩;obtain⟨ad,rfl,hb,z0,z1,z2,z3,z4,z5,z6,z7,z8⟩:=hRr.at_ hr;have hbw:ad.block<wr.heap.size:=Nat.lt_of_lt_of_le hb hBr;have hok:=hRr.ok r (List.mem_of_getElem? hr);have HRD:=qh hr;obtain⟨id,ph,vs,zs,no,op,arg,xs,ch,VA,vc,ZA,zc,XA,xc⟩:=r;have HOK:=qh hok;dsimp only at z0 z1 z2 z3 z4 z5 z6 z7 z8;clear hBw2 hRr hr hok;have hNB:∀ o:Obj,Below W0.heap.size W0 (wr.alloc o):=λ o=>HB.out.alloc HB.out.size _
    have HNB:=qh hNB;clear hNB;by_cases g3:id<1\/9999<id\/¬(ph=1\/ph=2)
    . have HR:Hid (R=1):=qh (by
       have e:=KA9 (AE:=AE) (l:=l) (k:=k) (r:=⟨id,ph,vs,zs,no,op,arg,xs,ch,VA,vc,ZA,zc,XA,xc⟩) g3;rw [HRF.out,HF.out,KJ2 HRD.out (by rw [e];decide),e];rfl)
      have hc:id<1\/(¬id<1/\9999<id)\/(¬id<1/\¬9999<id/\ph≠1/\ph≠2):=(by omega);clear g3;rcases hc with q1|⟨q1,q2⟩|⟨q1,q2,q3,q4⟩
      rotate_left
      rotate_left
      focus
       have q5:(ph !=1)=true:=bne_iff_ne.2 q3;have q6:(ph !=2)=true:=bne_iff_ne.2 q4;clear q3 q4
      all_goals
       go_wp2_with fail;go_ret;exact⟨by rw [HR.out];rfl,HB0.out.trans ((HNB.out _).mono (Nat.le_of_lt hlt0))⟩
    . have q1:¬id<1:=(by omega);have q2:¬9999<id:=(by omega);have hph:ph=1\/ph=2:=(by omega);have HG3:=qh g3;clear g3;obtain⟨W1,hW1⟩:∃ W1,wr.alloc (.cells #[.int .i64 id,.int .i64 ph,.slice VA vs.length vc,.slice (ZA) zs.length zc,.bool no,.int .i64 op,.string arg,.slice XA xs.length xc,.bool ch] 44)=W1:=⟨_,rfl⟩;have hk1:Blk W1 wr.heap.size 44 #[.int .i64 id,.int .i64 ph,.slice VA vs.length vc,.slice (ZA) zs.length zc,.bool no,.int .i64 op,.string arg,.slice XA xs.length xc,.bool ch]:=(by rw [<-hW1];exact Blk.new _ _ _);have HB1:Hid (Below W0.heap.size W0 W1):=qh (by rw [<-hW1];exact HNB.out _);have hb1:Below wr.heap.size wr W1:=(by rw [<-hW1];exact(Below.refl _ _).alloc (Nat.le_refl _) _);have hR1:=(HRr.out.below (hb1.mono hBr)).take (Nat.le_of_lt hlk);have htl:(l.take k).length=k:=(by rw [List.length_take,Nat.min_eq_left hk]);have CC:=qi1 id wr.heap.size (l.take k) (some ad) cap B W1 hR1 (by have:=hk1.cell 0;exact this);rw [htl] at CC;have CC:=qh CC;have HK1:=qh hk1;have hz1:wr.heap.size<W1.heap.size:=Blk.lt hk1;have x21:=Blk.e2 (HK0.out.below HB1.out hlt0);obtain⟨y0,y1⟩:=Blk.c2 hk1;have hOK1:Hid (RuM W1 B ⟨id,ph,vs,zs,no,op,arg,xs,ch,VA,vc,ZA,zc,XA,xc⟩):=qh (HOK.out.below (hb1.mono hBr));have hB1w:B<=W1.heap.size:=Nat.le_trans hBr hb1.size;have HWW:=qh hW1;clear hb1 hR1 hk1 htl hW1;obtain⟨D,hD⟩:∃ D,D=(l.take k).any (idB id):=⟨_,rfl⟩;rw [<-hD] at CC;have HD:=qh hD;clear hD
      have hq:((ph !=1)=false)\/((ph !=1)=true/\(ph !=2)=false):=by
       rcases hph with h|h
       . exact .inl (bne_eq_false_iff_eq.2 h)
       . exact .inr ⟨bne_iff_ne.2 (by omega),bne_eq_false_iff_eq.2 h⟩
      clear hph;have CO:=qh λ w2 (hb:Below W1.heap.size W1 w2)=>Yk9 AE ⟨id,ph,vs,zs,no,op,arg,xs,ch,VA,vc,ZA,zc,XA,xc⟩ B w2 (hOK1.out.below (hb.mono hB1w)) (Nat.le_trans hB1w hb.size) (HA.out.below (HB0.out.trans ((HB1.out.trans (hb.mono HB1.out.size)).mono (Nat.le_of_lt hlt0))))
      obtain⟨E,hE⟩:∃ E,E=x79 AE ⟨id,ph,vs,zs,no,op,arg,xs,ch,VA,vc,ZA,zc,XA,xc⟩:=⟨_,rfl⟩;rw [<-hE] at CO;have HE:=qh hE;clear hE;rcases hq with q5|⟨q5,q6⟩
      all_goals
       go_wp2_with fail;try rw [HWW.out]
       go_wp2_with fail;refine CC.out.mono ?_;rintro e w2 ⟨rfl,b2⟩;have HB2:=qh (HB1.out.trans (b2.mono HB1.out.size));have hk2:=HK1.out.below b2 hz1;have CO2:=qh (CO.out w2 b2);obtain⟨v0,v1,v2,v3,v4,v5,v6,v7,v8⟩:=Blk.c9 hk2;clear b2 hk2 y0 y1 x21 z0 z1 z2 z3 z4 z5 z6 z7 z8 CO;cases D with
       |true=>
        have HR:Hid (R=9):=qh (by
         have e:=ZK8 (AE:=AE) (r:=⟨id,ph,vs,zs,no,op,arg,xs,ch,VA,vc,ZA,zc,XA,xc⟩) HG3.out HD.out.symm;rw [HRF.out,HF.out,KJ2 HRD.out (by rw [e];decide),e];rfl)
        go_wp2_with fail;go_ret;exact⟨by rw [HR.out];rfl,HB0.out.trans (HB2.out.mono (Nat.le_of_lt hlt0))⟩
       |false=>
        have HN:Hid (Zh1 AE l k ⟨id,ph,vs,zs,no,op,arg,xs,ch,VA,vc,ZA,zc,XA,xc⟩=E):=qh (by rw [HE.out];exact Za2 HG3.out HD.out.symm);go_wp2_with fail;refine CO2.out.mono ?_;rintro e w3 ⟨rfl,b3⟩;have HB3:=qh (HB2.out.trans (b3.mono HB2.out.size));clear b3;by_cases he:E=0
        . have he2:(E !=0)=false:=bne_eq_false_iff_eq.2 he;have HF2:Hid (F=frE AE l (l.drop (k+1)) (k+1)):=qh (by rw [HF.out,jj8 HRD.out (by rw [HN.out];exact he)]);clear he;go_wp2_with fail;go_roundw
          case rel=>exact⟨k+1,by go_num,by omega,HF2,HB3⟩
          case measure=>simp [intOf];omega
        . have he2:(E !=0)=true:=bne_iff_ne.2 he;have HR:Hid (R=E):=qh (by rw [HRF.out,HF.out,KJ2 HRD.out (by rw [HN.out];exact he),HN.out,if_pos he]);clear he;go_wp2_with fail;go_ret;exact⟨by rw [HR.out];rfl,HB0.out.trans (HB3.out.mono (Nat.le_of_lt hlt0))⟩
  . obtain rfl:k=l.length:=(by omega);have HRC:Hid (R=if C=true then 1 else 0):=qh (by rw [HRF.out,HF.out,X81 (Nat.le_refl _),if_neg (by decide)]);clear HF HRF hlk hk;go_wp2_with fail;obtain⟨wm,rfl⟩:∃ wm:World,wm=wr:=⟨_,rfl⟩;go_loopw [71] (λ u wr=>∃ k:Nat,u= .int .i64 (k:Int)/\k<=l.length/\Hid (C=chL l (l.drop k) k)/\Hid (Below W0.heap.size W0 wr)) (λ u _=>l.length-(intOf u).toNat)
    case atStart=>exact⟨0,rfl,Nat.zero_le _,HC0,HB⟩
    case round=>
     clear HC0 HB x2 hltr;obtain⟨k,rfl,hk,HC,HB⟩:=hrel;have x2:=Blk.e2 (HK0.out.below HB.out hlt0);have hltr:w.heap.size<wr.heap.size:=Nat.lt_of_lt_of_le hlt0 HB.out.size;by_cases hlk:k<l.length
     . have k1:(k:Int)<(l.length:Int):=(by omega);have k0:(0:Int)<=(k:Int):=(by omega);have kw:IntKind.i64.wrap ((k:Int)+1)=(k:Int)+1:=IntWalk.i64_in _ (by omega);have hRr:=H.out.below ((HB0.out.trans (HB.out.mono (Nat.le_of_lt hlt0))).mono hBw);have hBr:=hRr.hB;obtain⟨r,hr⟩:∃ r,l[k]? =some r:=⟨_,List.getElem?_eq_getElem hlk⟩;obtain⟨ad,rfl,hb,z0,z1,z2,z3,z4,z5,z6,z7,z8⟩:=hRr.at_ hr;have hbw:ad.block<wr.heap.size:=Nat.lt_of_lt_of_le hb hBr;have HRD:=qh hr;have HRr:=qh hRr
       have HN1:Hid (∀ y,l[k+1]? =some y->wr.cell? ⟨(ad.add ((k+1)*9)).block,(ad.add ((k+1)*9)).off+1,none⟩=some (.int .i64 y.ph)):=qh λ y hy=>by
        obtain⟨ad',e,_,_,h1,_⟩:=hRr.at_ hy;cases e;exact h1
       obtain⟨id,ph,vs,zs,no,op,arg,xs,ch,VA,vc,ZA,zc,XA,xc⟩:=r;dsimp only at z0 z1 z2 z3 z4 z5 z6 z7 z8;clear hRr hr;have hNB:∀ o:Obj,Below W0.heap.size W0 (wr.alloc o).drew:=λ o=>(HB.out.alloc HB.out.size _).drew
       have HNB:=qh hNB;have HNB0:Hid (∀ o:Obj,Below W0.heap.size W0 (wr.alloc o)):=qh λ o=>HB.out.alloc HB.out.size _
       clear hNB;cases ch with
       |false=>
        have HC2:Hid (C=chL l (l.drop (k+1)) (k+1)):=qh (by rw [HC.out,yg2 HRD.out rfl]);go_wp2_with fail;go_quiet (fail)
        go_wp2_with fail;exact⟨⟨k+1,rfl,by omega,HC2,qh (below_drewN (HNB0.out _) _)⟩,by simp [intOf];omega⟩
       |true=>
        by_cases hlast:k+1=l.length
        . have q1:(((k:Int)+1)==(l.length:Int))=true:=beq_iff_eq.2 (by omega)
          have hc:chB l k ⟨id,ph,vs,zs,no,op,arg,xs,true,VA,vc,ZA,zc,XA,xc⟩=true:=by
           unfold chB;rw [List.getElem?_eq_none (by omega)];rfl
          have HR:Hid (R=1):=qh (by rw [HRC.out,HC.out,XW0 HRD.out hc];rfl);clear hlast hc;go_wp2_with fail;go_quiet (fail)
          go_wp2_with fail;go_ret;exact⟨by rw [HR.out];rfl,HB0.out.trans ((below_drewN (HNB0.out _) _).mono (Nat.le_of_lt hlt0))⟩
        . have q1:(((k:Int)+1)==(l.length:Int))=false:=beq_eq_false_iff_ne.2 (by omega);have k2:(k:Int)+1<(l.length:Int):=(by omega);have k3:(0:Int)<=(k:Int)+1:=(by omega);have k4:((k:Int)+1).toNat=k+1:=(by omega);obtain⟨y,hy⟩:∃ y,l[k+1]? =some y:=⟨_,List.getElem?_eq_getElem (by omega)⟩;have z9:=HN1.out y hy;have hbw2:(ad.add ((k+1)*9)).block<wr.heap.size:=by rw [ZE9];exact hbw
          have hc:chB l k ⟨id,ph,vs,zs,no,op,arg,xs,true,VA,vc,ZA,zc,XA,xc⟩= !(y.ph==ph):=by
           unfold chB;rw [hy];rfl
          obtain⟨p2,hp2⟩:∃ p2,y.ph=p2:=⟨_,rfl⟩;rw [hp2] at z9 hc;clear hlast hy hp2 HN1;by_cases hpp:p2=ph
          . have q2:(p2 !=ph)=false:=bne_eq_false_iff_eq.2 hpp;have HC2:Hid (C=chL l (l.drop (k+1)) (k+1)):=qh (by rw [HC.out,yg2 HRD.out (by rw [hc,hpp];simp)]);clear hpp hc;go_wp2_with fail;go_quiet (fail)
            go_wp2_with fail;exact⟨⟨k+1,rfl,by omega,HC2,qh (below_drewN (HNB0.out _) _)⟩,by simp [intOf];omega⟩
          . have q2:(p2 !=ph)=true:=bne_iff_ne.2 hpp;have HR:Hid (R=1):=qh (by rw [HRC.out,HC.out,XW0 HRD.out (by rw [hc];simp [hpp])];rfl);clear hpp hc;go_wp2_with fail;go_quiet (fail)
            go_wp2_with fail;go_ret;exact⟨by rw [HR.out];rfl,HB0.out.trans ((below_drewN (HNB0.out _) _).mono (Nat.le_of_lt hlt0))⟩
     . obtain rfl:k=l.length:=(by omega);have HR:Hid (R=0):=qh (by rw [HRC.out,HC.out,Zo9 (Nat.le_refl _)];rfl);go_wp2_with fail;go_ret;exact⟨by rw [HR.out];rfl,HB0.out.trans (HB.out.mono (Nat.le_of_lt hlt0))⟩
end
theorem X37:(Tryz.prog.info? 68).map (·.size)=some 2:=by kernel_rfl
theorem yK0:liesAt Tryz.prog Tryz.prog.depth 68 (2/Tryz.prog.cellsOf 68) 0 68 1=true:=by kernel_rfl
theorem j82:(Tryz.prog.info? 5).map (λ i=>(i.zero,i.size,i.bytes))=some (some (.int .u8 0),1,1):=by kernel_rfl
abbrev IsB (B b:Nat) (bs:List Value) (w:World):Prop:=Lib.IsBuilder 68 5 B b bs w
set_option maxHeartbeats 1000000 in
set_option maxRecDepth 100000 in
theorem jX2 (b:Nat) (w:World) (h0:w.cell? ⟨b,0,none⟩=some (.pointer (some ⟨b,0,none⟩))):
 Calls Tryz.prog 60 #[.pointer (some ⟨b,0,none⟩)] w λ e w'=>e= .returned (.tuple #[])/\w'=w:=by
 obtain⟨j,hj,_⟩:=Option.map_eq_some_iff.1 X37;go_enter Tryz.func60,Tryz.ntmps60
 go_wp2
 rw [Lib.run_neq_ptr_same w _ Tryz.underlying65 hj]
 go_wp2
 go_end0
 exact⟨rfl,rfl⟩
set_option maxHeartbeats 1000000 in
set_option maxRecDepth 100000 in
theorem Xn5 (b:Nat) (w:World) (h0:w.cell? ⟨b,0,none⟩=some (.pointer none)) (hsh:w.shape? b=some (68,2)) (hfz:w.frozen? ⟨b,0,none⟩=false):
 Calls Tryz.prog 60 #[.pointer (some ⟨b,0,none⟩)] w λ e w'=>e= .returned (.tuple #[])/\w'=w.setCell ⟨b,0,none⟩ (.pointer (some ⟨b,0,none⟩)):=by
 obtain⟨j,hj,hjs⟩:=Option.map_eq_some_iff.1 X37;go_enter Tryz.func60,Tryz.ntmps60
 go_wp2
 rw [Lib.run_to_unsafe w ⟨b,0,none⟩ Tryz.underlying65 Tryz.underlying141 hj (by rw [hjs];decide) hsh (Nat.zero_lt_succ 1)];simp only [Result.andThen];rw [Oper.upon_value]
 go_wp2
 rw [run_callFunc_extern Tryz.func96 (by kernel_rfl) (by kernel_rfl) (by kernel_rfl) (e:=Extern.AbiNoEscape.same) (by kernel_rfl)];rw [Lib.run_noEscape];simp only [Result.andThen];rw [Oper.upon_value]
 go_wp2
 rw [Lib.run_from_unsafe w ⟨b,0,none⟩ Tryz.underlying141 Tryz.underlying65 hj hsh yK0];simp only [Result.andThen];rw [Oper.upon_value]
 go_wp2
 go_end0
 exact⟨rfl,rfl⟩
theorem Xl9 (B b:Nat) (bs:List Value) (w:World) (h:IsB B b bs w):
 Calls Tryz.prog 60 #[.pointer (some ⟨b,0,none⟩)] w λ e w'=>e= .returned (.tuple #[])/\(Lib.BuilderAt 68 5 B b (.pointer (some ⟨b,0,none⟩)) bs w'/\Below B w w'):=by
 rcases h with h|h
 . refine(Xn5 b w h.cell0 h.shape h.frozen0).mono ?_;rintro e w' ⟨rfl,rfl⟩;exact⟨rfl,h.used _,(Below.refl B w).setCell (p:=⟨b,0,none⟩) h.1 _⟩
 . refine(jX2 b w h.cell0).mono ?_;rintro e w' ⟨rfl,rfl⟩;exact⟨rfl,h,Below.refl B _⟩
set_option maxHeartbeats 2000000 in
set_option maxRecDepth 100000 in
theorem Z50 (B b:Nat) (bs:List Value) (s:ByteArray) (w:World) (h:IsB B b bs w) (hlen:bs.length+s.size<=140737488355328) (hBw:B<=w.heap.size):
 Calls Tryz.prog 31 #[.pointer (some ⟨b,0,none⟩),.string s] w λ e w'=>e= .returned (.tuple #[.int .i64 s.size,.nilIface])/\IsB B b (bs++Lib.strCells s) w'/\Below B w w':=by
 obtain⟨i0,hi,hz0,hz1,hz2⟩:=info_parts j82;go_enter Tryz.func31,Tryz.ntmps31;go_wp2_with (go_at_call 60;refine(Xl9 B b bs _ h).mono ?_);rintro e w1 ⟨rfl,h1,hb1⟩;obtain⟨hB,v,hbk,hown,hne⟩:=h1;have c0:w1.cell? ⟨b,0,none⟩=some (.pointer (some ⟨b,0,none⟩)):=by rw [Lib.cell_of_heap hbk];rfl
 have c1:w1.cell? ⟨b,1,none⟩=some v:=by rw [Lib.cell_of_heap hbk];rfl
 go_wp2_with (at_builtin;refine Lib.wpList_append_own_string _ rfl _ _ 66 9 rfl B 5 i0 Tryz.underlying66 Tryz.underlying9 hi hz0 hz1 hz2 _ _ _ rfl hown s rfl ?c3 ?c4 ?c5 ?_)
 case c3=>unfold maxLen;omega
 case c4=>omega
 case c5=>have:=hb1.size;omega
 intro v' w2 hown' hgrow _
 have hlt:b<w1.heap.size:=by
  rcases Nat.lt_or_ge b w1.heap.size with h'|h'
  . exact h'
  . simp [Array.getElem?_eq_none h'] at hbk
 have hb2:w2.heap[b]? =some (.cells #[.pointer (some ⟨b,0,none⟩),v] 68 (0,0)):=by
  rw [hgrow.block b hlt (λ e=>hne e.symm)];exact hbk
 have d0:w2.cell? ⟨b,0,none⟩=some (.pointer (some ⟨b,0,none⟩)):=by rw [Lib.cell_of_heap hb2];rfl
 have d1:w2.cell? ⟨b,1,none⟩=some v:=by rw [Lib.cell_of_heap hb2];rfl
 have f1:w2.frozen? ⟨b,1,none⟩=false:=Lib.frozen_of_heap hb2 1
 obtain⟨ao,n',cap,rfl⟩:∃ ao n' cap,v'= .slice ao n' cap:=by
  rcases hown'.2 with⟨hv,_⟩|⟨g,cap,cur,hv,_⟩
  . exact⟨_,_,_,hv⟩
  . exact⟨_,_,_,hv⟩
 go_wp2
 go_ret2;refine⟨rfl,.inr ?_,?_⟩
 . exact Lib.BuilderAt.put (T:=68) (e:=5) hB hb2 (bs':=bs++Lib.strCells s) (by simpa [Lib.strCells_length] using hown') (by decide)
 . exact(hb1.grown hgrow (by have:=hb1.size;omega) (λ k hk=>(hown.lt k hk).1)).setCell (p:=⟨b,1,none⟩) hB _
def Bld (w:World) (b:Nat) (l:List UInt8):Prop:=IsB b b (Lib.byteCells l) w
section
variable {w w':World} {b:Nat} {l:List UInt8}
theorem Bld.new (w:World):Bld (w.alloc (.cells #[.pointer none,.slice none 0 0] 68)) w.heap.size []:=Lib.fresh_isBuilder _ _ _
theorem Bld.lt (h:Bld w b l):b<w.heap.size:=by
 rcases h with h|h<;>exact h.lt
theorem zo2 {p:Value} {bs:List Value} {B:Nat} {T e:TypeId} (h:Lib.BuilderAt T e B b p bs w) (o:Obj):Lib.BuilderAt T e B b p bs (w.alloc o):=by
 have hlt:=h.lt;obtain⟨hB,v,hb,ho,hn⟩:=h;exact⟨hB,v,(Below.heap_alloc w o b hlt).trans hb,ho.alloc o,hn⟩
theorem Bld.alloc (h:Bld w b l) (o:Obj):Bld (w.alloc o) b l:=h.elim (λ h=> .inl (zo2 h o)) (λ h=> .inr (zo2 h o))
theorem Bld.drew (h:Bld w b l):Bld w.drew b l:=h
theorem Bld.drewN (h:Bld w b l) (n:Nat):Bld (w.drewN n) b l:=h
theorem zg5 (s:ByteArray) (h:Bld w b l) (hl:l.length+s.size<=140737488355328):
 Calls Tryz.prog 31 #[.pointer (some ⟨b,0,none⟩),.string s] w λ e w'=>e= .returned (.tuple #[.int .i64 s.size,.nilIface])/\Bld w' b (l++s.data.toList)/\Below b w w':=
 (Z50 b b _ s w h (by rw [Lib.byteCells_length];exact hl) (Nat.le_of_lt h.lt)).mono λ e w' ⟨h1,h2,h3⟩=>⟨h1,by unfold Bld;rw [Lib.byteCells_append,<-Lib.strCells_eq];exact h2,h3⟩
theorem yc6 (h:Bld w b l):Calls Tryz.prog 33 #[.pointer (some ⟨b,0,none⟩)] w λ e w'=>e= .returned (.string (str l))/\Below b w w':=
 Tryz.Builder_String_any b b l w h (Nat.le_of_lt h.lt)
end
theorem okV_p {v:Vr} (h:okV v=true):(0<=v.k/\v.k<13)/\0<=v.m/\v.m<3:=by
 unfold okV at h;simp only [Bool.and_eq_true,decide_eq_true_eq] at h;omega
theorem okX_p {x:Int×Int} (h:okX x=true):(0<=x.1/\x.1<6)/\x.2<=9223372036854775807:=by
 unfold okX at h;simp only [Bool.or_eq_true,Bool.and_eq_true,beq_iff_eq,decide_eq_true_eq] at h;omega
section
variable {AE:Int->ByteArray->Int}
theorem Ku1 {r:Ru} (h:x79 AE r=0):r.vs.length<=8/\r.xs.length<=8/\(∀ v∈r.vs,(0<=v.k/\v.k<13)/\0<=v.m/\v.m<3)/\yU7 r.zs=0/\(0<=r.op/\r.op<13)/\∀ v∈r.xs,(0<=v.1/\v.1<6)/\v.2<=9223372036854775807:=by
 unfold x79 at h;split at h
 . cases h
 rename_i h1
 split at h
 . cases h
 split at h
 . cases h
 rename_i h3
 split at h
 . rename_i h4;exact absurd h h4
 rename_i h4
 split at h
 . cases h
 rename_i h5
 split at h
 . rename_i h6;exact absurd h h6
 split at h
 . rename_i h7
   refine⟨by omega,by omega,λ v hv=>okV_p (List.all_eq_true.1 (Decidable.not_not.1 h3) v hv),Decidable.not_not.1 h4,by omega,λ v hv=>okX_p (List.all_eq_true.1 h7 v hv)⟩
 . cases h
theorem qV1 {l:List Ru} {k:Nat} {r:Ru} (h:Zh1 AE l k r=0):RuP r:=by
 unfold Zh1 at h;split at h
 . cases h
 rename_i h1
 split at h
 . cases h
 obtain⟨a,b,c,d,e,f⟩:=Ku1 h;exact⟨by omega,by omega,a,c,d,e,b,f⟩
theorem yj5 {l:List Ru}:∀ {m:List Ru} {k:Nat},frE AE l m k=0->∀ r∈m,RuP r
 | [],_,_,r,hr=>by cases hr
 |x::m,k,h,r,hr=>by
  rw [frE] at h;split at h
  . rename_i h1;exact absurd h h1
  rename_i h1
  rcases List.mem_cons.1 hr with rfl|h2
  . exact qV1 (Decidable.not_not.1 h1)
  . exact yj5 h r h2
theorem qn1 {most st:Int} {l:List Ru} (h:QR3 AE most st l=0):(1<=most/\most<=1000000)/\(400<=st/\st<=599)/\l.length<=40/\∀ r∈l,RuP r:=by
 unfold QR3 at h;split at h
 . cases h
 rename_i h1
 split at h
 . cases h
 rename_i h2
 split at h
 . rename_i h3;exact absurd h h3
 rename_i h3
 exact⟨by omega,by omega,by omega,yj5 (Decidable.not_not.1 h3)⟩
end
def nlT:ByteArray:=⟨#[10]⟩
def hdT (most st:Int):ByteArray:=⟨#[115,99,111,114,101,32]⟩++itS most++⟨#[32]⟩++itS st++nlT
def xj5 (most st:Int) (l:List Ru):List UInt8:=(hdT most st).data.toList++l.flatMap λ r=>(ruT r++nlT).data.toList
theorem xF5 {most st:Int} {l:List Ru} {r:Ru}:xj5 most st (l++ [r])=xj5 most st l++(ruT r++nlT).data.toList:=by
 unfold xj5;rw [List.flatMap_append,List.append_assoc];simp
theorem ZL9 {w:World} {B:Nat} {r:Ru} (hp:RuP r) (h:RuM w B r):(ruT r).size<=80000008:=Nat.le_trans (Jr8 (kI1 hp h.vs.2.2.2 h.ag)) (by show 8*(10000000+1)<=80000008;omega)
theorem k07 {w:World} {B:Nat} {most st:Int} {l:List Ru} (hm:(hdT most st).size<=100) (h:∀ r∈l,RuP r/\RuM w B r):(xj5 most st l).length<=100+l.length*80000009:=by
 unfold xj5;rw [List.length_append,qX6]
 have:∀ l:List Ru,(∀ r∈l,RuP r/\RuM w B r)->(l.flatMap λ r=>(ruT r++nlT).data.toList).length<=l.length*80000009:=λ l=>by
  induction l with
  |nil=>simp
  |cons r l ih=>
   intro h;have h1:=ZL9 (h r (by simp)).1 (h r (by simp)).2;have h2:=ih λ x hx=>h x (List.mem_cons_of_mem _ hx)
   rw [List.flatMap_cons,List.length_append,qX6,ByteArray.size_append,List.length_cons,Nat.succ_mul];have:nlT.size=1:=rfl;omega
 have:=this l h;omega
theorem Ya9 {most st:Int} (h1:1<=most/\most<=1000000) (h2:400<=st/\st<=599):(hdT most st).size<=100:=by
 have a:=y23 most (by omega);have b:=y23 st (by omega);unfold hdT;rw [ByteArray.size_append,ByteArray.size_append,ByteArray.size_append,ByteArray.size_append];have:nlT.size=1:=rfl;have:(ByteArray.mk #[115,99,111,114,101,32]).size=6:=rfl;have:(ByteArray.mk #[32]).size=1:=rfl;omega
theorem Xp7 {p:Value} {bs:List Value} {B b:Nat} {T e:TypeId} {w w':World} (h:Lib.BuilderAt T e B b p bs w) (hb:Below w.heap.size w w'):Lib.BuilderAt T e B b p bs w':=by
 have hlt:=h.lt;obtain⟨hB,v,hbk,ho,hn⟩:=h;exact⟨hB,v,(hb.block b hlt).trans hbk,ji4 ho hb,hn⟩
theorem Bld.bel {w w':World} {b:Nat} {l:List UInt8} (h:Bld w b l) (hb:Below w.heap.size w w'):Bld w' b l:=h.elim (λ h=> .inl (Xp7 h hb)) (λ h=> .inr (Xp7 h hb))
structure Sb (W:World) (b:Nat) (L:List UInt8) (w':World):Prop where
 be:Below b W w'
 bl:Bld w' b L
theorem Sb.kept {W w' w'':World} {b:Nat} {L:List UInt8} (h:Sb W b L w') (hb:Below w'.heap.size w' w''):Sb W b L w'':=⟨h.be.trans (hb.mono (Nat.le_of_lt h.bl.lt)),h.bl.bel hb⟩
section
variable (AE:Int->ByteArray->Int) (most st:Int) (l:List Ru) (A:Option Addr) (cap B:Nat) (w:World)
def prT (E most st:Int) (l:List Ru):ByteArray:=if E=0 then str (xj5 most st l) else ⟨#[]⟩
set_option maxRecDepth 100000 in
set_option maxHeartbeats 1200000 in
theorem YY3 (h:RuR w B A cap l) (hT:TwI w) (hA:∀ w',Below w.heap.size w w'->ArgOk 72 AE w'):
 Calls Tryz.prog 10 #[.agg #[.int .i64 most,.int .i64 st,.slice A l.length cap]] w λ e w'=>e= .returned (.tuple #[.string (prT (QR3 AE most st l) most st l),.int .i64 (QR3 AE most st l)])/\Below w.heap.size w w':=by
 have H:=qh λ w' (hb:Below w.heap.size w w')=>h.kept hb
 have HT:=qh λ w' (hb:Below w.heap.size w w')=>hT.below hb
 obtain⟨W,hW⟩:∃ W,w.alloc (.cells #[.int .i64 most,.int .i64 st,.slice A l.length cap] 24)=W:=⟨_,rfl⟩;have hb1:Below w.heap.size w W:=by rw [<-hW];exact(Below.refl _ _).alloc (Nat.le_refl _) _
 have hk1:Blk W w.heap.size 24 #[.int .i64 most,.int .i64 st,.slice A l.length cap]:=by rw [<-hW];exact Blk.new _ _ _
 have CK:=qh (kC7 AE most st l A cap B W (h.kept hb1) (hA W hb1));obtain⟨E,hE⟩:∃ E,E=QR3 AE most st l:=⟨_,rfl⟩;rw [<-hE] at CK⊢;have HP:=qh λ h0:E=0=>qn1 (hE.symm.trans h0)
 obtain⟨t0,t1,t2⟩:=Blk.c3 hk1;have HB1:=qh hb1;have HK1:=qh hk1;obtain⟨PT,hPT⟩:∃ PT,PT=prT E most st l:=⟨_,rfl⟩;rw [<-hPT];have HPT:=qh hPT;clear h hT hA hE hb1 hk1 hPT;go_enter Tryz.func10,Tryz.ntmps10;go_wp2_with fail;refine CK.out.mono ?_;rintro e w2 ⟨rfl,b2⟩;have HB2:=qh (HB1.out.trans (b2.mono HB1.out.size));have HK2:=qh (HK1.out.below b2 (Blk.lt HK1.out));have hlt2:=Blk.lt HK2.out;clear CK t0 t1 t2 b2 HB1 HK1;by_cases h0:E=0
 . have q:(E==0)=true:=(by rw [h0];rfl);obtain⟨hm1,hs1,hl1,hrp⟩:=HP.out h0;have HP0:Hid (PT=str (xj5 most st l)):=qh (HPT.out.trans (if_pos h0));have HRP:=qh hrp;have HE0:=qh h0;have HZ:=qh (Ya9 hm1 hs1);obtain⟨W3,hW3⟩:∃ W3,w2.alloc (.cells #[.pointer none,.slice none 0 0] 68)=W3:=⟨_,rfl⟩;have b3:Below w2.heap.size w2 W3:=(by rw [<-hW3];exact(Below.refl _ _).alloc (Nat.le_refl _) _);have hbl:Bld W3 w2.heap.size []:=(by rw [<-hW3];exact Bld.new _);have HB3:=qh (HB2.out.trans (b3.mono HB2.out.size));have hk3:=HK2.out.below b3 hlt2;have hlw:w.heap.size<=w2.heap.size:=HB2.out.size;obtain⟨b,hb⟩:∃ b,b=w2.heap.size:=⟨_,rfl⟩;rw [<-hb] at hbl hlt2 hlw;have HS0:Sb W3 b [] W3:=⟨Below.refl _ _,hbl⟩;have HBe:=qh λ w' L (h:Sb W3 b L w')=>HB3.out.trans (h.be.mono hlw)
   have HS:=qh λ w' L (h:Sb W3 b L w')=>(show w'.cell? ⟨w.heap.size,0,none⟩=some (.int .i64 most)/\w'.cell? ⟨w.heap.size,1,none⟩=some (.int .i64 st) from by
    have hk:=hk3.below h.be hlt2;exact⟨hk.cell 0,hk.cell 1⟩)
   have HS2:=qh λ w' L (h:Sb W3 b L w')=>(show w'.cell? ⟨w.heap.size,2,none⟩=some (.slice A l.length cap) from (hk3.below h.be hlt2).cell 2)
   have hz:=Ya9 hm1 hs1;have hi1:=y23 most (by omega);have hi2:=y23 st (by omega);have CI1:=qh λ w' (h:Sb W3 b [] w')=>(kR4 most (by omega) w' (HT.out w' (HBe.out w' _ h))).mono λ _ w'' q=>And.intro q.1 (h.kept q.2)
   have CI2:=qh λ w' (h:Sb W3 b [] w')=>(kR4 st (by omega) w' (HT.out w' (HBe.out w' _ h))).mono λ _ w'' q=>And.intro q.1 (h.kept q.2)
   have hHD:hdT most st=⟨#[115,99,111,114,101,32]⟩++itS most++⟨#[32]⟩++itS st++⟨#[10]⟩:=rfl;obtain⟨I1,hI1⟩:∃ x,x=itS most:=⟨_,rfl⟩;obtain⟨I2,hI2⟩:∃ x,x=itS st:=⟨_,rfl⟩;rw [<-hI1] at CI1 hHD hi1;rw [<-hI2] at CI2 hHD hi2;have HHD:=qh hHD
   have CWr:Hid (∀ w',Sb W3 b [] w'->Calls Tryz.prog 31 #[.pointer (some ⟨b,0,none⟩),.string (⟨#[115,99,111,114,101,32]⟩++I1++⟨#[32]⟩++I2++⟨#[10]⟩)] w' λ e w''=>(∃ n:Int,e= .returned (.tuple #[.int .i64 n,.nilIface]))/\Sb W3 b (xj5 most st []) w''):=qh λ w' h=>by
    rw [<-HHD.out];refine(zg5 (hdT most st) h.bl (by simp only [List.length_nil];omega)).mono λ e w'' q=>⟨⟨_,q.1⟩,h.be.trans q.2.2,?_⟩
    have:=q.2.1;rwa [show xj5 most st []= []++(hdT most st).data.toList by unfold xj5;simp]
   have z0:(ByteArray.mk #[115,99,111,114,101,32]).size=6:=rfl;have z9:(ByteArray.mk #[32]).size=1:=rfl;have z8:(ByteArray.mk #[10]).size=1:=rfl;have z1:¬9223372036854775807<6+I1.size:=(by omega);have z2:¬9223372036854775807<6+I1.size+1:=(by omega);have z3:¬9223372036854775807<6+I1.size+1+I2.size:=(by omega);have z4:¬9223372036854775807<6+I1.size+1+I2.size+1:=(by omega);clear hI1 hI2 hHD HHD h0 HPT HP hrp hbl hk3 HB2 HK2 b3 hz;go_upto_region 5 with fail;rw [<-hb];clear hb;have HS0d:Sb W3 b [] W3.drew:=⟨below_drewN (Below.refl _ _) 1,HS0.bl.drewN 1⟩
   go_region_held3 (λ w'=>w'.cell? ⟨w.heap.size,0,none⟩=some (.int .i64 most)/\w'.cell? ⟨w.heap.size,1,none⟩=some (.int .i64 st)) (exact HS.out _ _ (by assumption))
    (first
     |(go_at_call 27;(with_reducible refine(CI1.out _ (by assumption)).mono ?_);rintro e w' ⟨rfl,hb'⟩)
     |(go_at_call 27;(with_reducible refine(CI2.out _ (by assumption)).mono ?_);rintro e w' ⟨rfl,hb'⟩)
     |(go_at_call 31;(with_reducible refine(CWr.out _ (by assumption)).mono ?_);rintro e w' ⟨⟨nw,rfl⟩,hb'⟩)
     |fail)
   all_goals
    have HS5:Hid (Sb W3 b (xj5 most st []) _):=qh (by assumption);have t2:=HS2.out _ _ HS5.out;have HBw:=qh (HBe.out _ _ HS5.out);clear CI1 CI2 CWr HS z0 z9 z8 z1 z2 z3 z4 hi1 hi2;go_wp2_with fail;go_loopw [27] (λ u wr=>∃ k:Nat,u= .int .i64 (k:Int)/\k<=l.length/\Hid (Sb W3 b (xj5 most st (l.take k)) wr)) (λ u _=>l.length-(intOf u).toNat)
    case atStart=>exact⟨0,rfl,Nat.zero_le _,HS5⟩
    case round=>
     obtain⟨k,rfl,hk,HL⟩:=hrel;by_cases hlt:k<l.length
     . have k1:(k:Int)<(l.length:Int):=(by omega);have k0:(0:Int)<=(k:Int):=(by omega);have kw:IntKind.i64.wrap ((k:Int)+1)=(k:Int)+1:=IntWalk.i64_in _ (by omega);have hr:=List.getElem?_eq_getElem hlt;obtain⟨r,hre⟩:∃ r,r=l[k]:=⟨_,rfl⟩;rw [<-hre] at hr;have hbw:=HBe.out _ _ HL.out;have HW:=H.out wr hbw;obtain⟨ad,rfl,had,x0,x1,x2,x3,x4,x5,x6,x7,x8⟩:=HW.at_ hr;have HM:=HW.ok r (List.mem_of_getElem? hr);have HRr:=HRP.out r (List.mem_of_getElem? hr);have hBw:=HW.hB;have hgk:(ad.add (k*9)).block<wr.heap.size:=World.block_lt_of_cell? _ _ x0;have htk:l.take (k+1)=l.take k++ [r]:=(by rw [List.take_succ_eq_append_getElem hlt,hre]);have hol:=k07 (w:=wr) (B:=B) (l:=l.take k) HZ.out λ x hx=>⟨HRP.out x (List.mem_of_mem_take hx),HW.ok x (List.mem_of_mem_take hx)⟩
       have hxs:=ZL9 HRr HM;rw [List.length_take] at hol;obtain⟨W4,hW4⟩:∃ W4,wr.alloc (.cells #[.int .i64 r.id,.int .i64 r.ph,.slice r.VA r.vs.length r.vc,.slice r.ZA r.zs.length r.zc,.bool r.no,.int .i64 r.op,.string r.arg,.slice r.XA r.xs.length r.xc,.bool r.ch] 44)=W4:=⟨_,rfl⟩;have hb4:Below wr.heap.size wr W4:=(by rw [<-hW4];exact(Below.refl _ _).alloc (Nat.le_refl _) _);have hk4:Blk W4 wr.heap.size 44 (Zn7 r).toArray:=(by rw [<-hW4];exact Blk.new _ _ _);obtain⟨t0,t1,t2,t3,t4,t5,t6,t7,t8⟩:=Blk.c9 hk4;have HS4:=qh (HL.out.kept hb4);have CT:=qh (xd6 r B W4 (HM.below (hb4.mono hBw)) (Nat.le_trans hBw hb4.size) HRr (HT.out W4 (hbw.trans (hb4.mono hbw.size))));have HTK:=qh (show xj5 most st (l.take (k+1))=xj5 most st (l.take k)++(ruT r++nlT).data.toList from by rw [htk,xF5]);obtain⟨X,hX⟩:∃ X,X=ruT r:=⟨_,rfl⟩;rw [<-hX] at CT HTK hxs;have z8:(ByteArray.mk #[10]).size=1:=rfl;have z1:¬9223372036854775807<X.size+1:=by omega
       have hln:(xj5 most st (l.take k)).length+(X++⟨#[10]⟩).size<=140737488355328:=by
        rw [ByteArray.size_append,z8];have:min k l.length<=40:=Nat.le_trans (Nat.min_le_right _ _) hl1;have:=Nat.mul_le_mul_right 80000009 this;omega
       clear hre hr hbw HW HM HRr htk hol hX hb4 hk4 HL had;go_wp2_with fail;refine CT.out.mono ?_;rintro e w5 ⟨rfl,b5⟩;have HS6:=qh (HS4.out.kept b5);clear b5 HS4 CT;go_wp2_with fail
       with_reducible refine(zg5 (X++⟨#[10]⟩) HS6.out.bl hln).mono ?_
       rintro e w6 ⟨rfl,hbl6,hb6⟩;have HS7:Hid (Sb W3 b (xj5 most st (l.take (k+1))) w6):=qh ⟨HS6.out.be.trans hb6,by rw [HTK.out];exact hbl6⟩;clear hbl6 hb6 HS6 HTK;go_wp2_with fail;go_roundw
       case rel=>exact⟨k+1,by go_num,by omega,HS7⟩
       case measure=>simp [intOf];omega
     . obtain rfl:k=l.length:=(by omega);have HL2:Hid (Sb W3 b (xj5 most st l) wr):=qh (by have h:=HL.out;rwa [List.take_length] at h);clear HL hlt t2;go_wp2_with fail;refine(yc6 HL2.out.bl).mono ?_;rintro e w8 ⟨rfl,b8⟩;have HB8:=qh ((HBe.out _ _ HL2.out).trans (b8.mono hlw));clear b8;go_wp2_with fail;go_ret2;exact⟨by rw [HP0.out,HE0.out];rfl,HB8.out⟩
 . have q:(E==0)=false:=(by rw [beq_eq_false_iff_ne];exact h0);have HP0:Hid (PT=⟨#[]⟩):=qh (HPT.out.trans (if_neg h0));clear h0;go_wp2_with fail;go_ret2;exact⟨by rw [HP0.out];rfl,HB2.out⟩
end
theorem xs1 (v:Vr):vTx v=mdB v.m++(if v.n.size=0 then vwB v.k else vwB v.k++(yb6++v.n)):=by
 unfold vTx;split
 . rfl
 . rw [ByteArray.append_assoc]
theorem j33 (a:Int×Int):aTx a=if 0<a.2 then awB a.1++(yb6++itS a.2) else awB a.1:=by
 unfold aTx;split
 . rw [ByteArray.append_assoc]
 . rfl
theorem Zy7 {most st:Int} {l:List Ru} {r:Ru}:str (xj5 most st (l++ [r]))=str (xj5 most st l)++(ruT r++nlT):=by
 rw [xF5];apply zH9;rw [Qe9,ByteArray.data_append (l:=str (xj5 most st l)),Array.toList_append,Qe9]
theorem K94 {most st:Int}:str (xj5 most st [])=hdT most st:=by
 apply zH9;rw [Qe9];unfold xj5;simp





def iv (n:Int):Value:= .int .i64 n


structure TbW (g:Nat) (L:List ByteArray) (w:World):Prop where
 lt:g<w.heap.size
 at_:∀ k,k<L.length->w.cell? ⟨g,k,none⟩=some (.string (L.getD k ByteArray.empty))
theorem TbW.below {g:Nat} {L:List ByteArray} {w w':World} (h:TbW g L w) (hb:Below w.heap.size w w'):TbW g L w':=⟨Nat.lt_of_lt_of_le h.lt hb.size,λ k hk=>(hb.cell (p:=⟨g,k,none⟩) h.lt).trans (h.at_ k hk)⟩
structure TW (w:World):Prop where
 v:TbW 0 Jf7 w
 o:TbW 2 Zd4 w
 a:TbW 1 XF4 w
 p:PW w
theorem TW.below {w w':World} (h:TW w) (hb:Below w.heap.size w w'):TW w':=⟨h.v.below hb,h.o.below hb,h.a.below hb,h.p.below hb⟩
end Go.Proofs.YtngepacmgabmaaaGreatDoor
