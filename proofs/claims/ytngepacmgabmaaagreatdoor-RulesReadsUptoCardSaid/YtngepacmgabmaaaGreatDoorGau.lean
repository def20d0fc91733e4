/- Walk: wickref.Rules, given what wickref.; The reference's tree of phrases: texts i .. -/
import Derived.Test.YtngepacmgabmaaaGreatDoorGat
import Derived.Test.YtngepacmgabmaaaGreatDoorGar
namespace Go.Proofs.YtngepacmgabmaaaGreatDoor
open Go.RowKit
set_option linter.unusedVariables false
set_option linter.unusedSimpArgs false
section
variable (AE:Int->ByteArray->Int) (most st:Int) (l:List Ru) (A:Option Addr) (cap B:Nat) (w:World)
set_option maxRecDepth 100000 in
set_option maxHeartbeats 8000000 in
theorem KR1 (h:RuR w B A cap l) (hA:ArgOk 57 AE w):
 Calls Tryz.prog 8 #[.agg #[.int .i64 most,.int .i64 st,.slice A l.length cap]] w λ e w'=>e= .returned (.int .i64 (QR3 AE most st l))/\Below w.heap.size w w':=by
 obtain⟨hlc,hcc⟩:=h.hc;obtain⟨R,hR⟩:∃ R,R=QR3 AE most st l:=⟨_,rfl⟩;rw [<-hR];unfold QR3 at hR;have H:=qh h;have hBw:=h.hB;have HA:=qh hA;clear h hA;have hba:∀ o:Obj,Below w.heap.size w (w.alloc o):=λ o=>(Below.refl _ _).alloc (Nat.le_refl _) _
 have HBA:=qh hba;clear hba;by_cases g1:most<1\/1000000<most\/st<400\/599<st
 . have HR:Hid (R=1):=qh (by rw [hR,if_pos g1]);clear hR
   have hc:inB most 1 1000000=false\/(inB most 1 1000000=true/\inB st 400 599=false):=by
    by_cases c:1<=most/\most<=1000000
    . exact .inr ⟨Xe9 c,jc6 (by omega)⟩
    . exact .inl (jc6 c)
   clear g1;rcases hc with c1|⟨c1,c2⟩
   all_goals
    go_enter Tryz.func8,Tryz.ntmps8;go_wp2_with (first|(go_at_call 25;refine(zD9 _ _ _ _).mono ?_;rintro e w' ⟨rfl,rfl⟩)|fail);go_ret;exact⟨by rw [HR.out];rfl,HBA.out _⟩
 rw [if_neg g1] at hR;have c1:inB most 1 1000000=true:=Xe9 (by omega);have c2:inB st 400 599=true:=Xe9 (by omega);clear g1;by_cases g2:40<l.length
 . have HR:Hid (R=2):=qh (by rw [hR,if_pos g2]);have d1:(40:Int)<(l.length:Int):=(by omega);clear hR;go_enter Tryz.func8,Tryz.ntmps8;go_wp2_with (first|(go_at_call 25;refine(zD9 _ _ _ _).mono ?_;rintro e w' ⟨rfl,rfl⟩)|fail);go_ret;exact⟨by rw [HR.out];rfl,HBA.out _⟩
 rw [if_neg g2] at hR;have d1:¬(40:Int)<(l.length:Int):=by omega
 have hl40:l.length<=40:=by omega
 clear g2;obtain⟨F,hF⟩:∃ F,F=frE AE l l 0:=⟨_,rfl⟩;obtain⟨C,hC⟩:∃ C,C=chL l l 0:=⟨_,rfl⟩;rw [<-hF,<-hC] at hR;have HRF:=qh hR;have HF0:Hid (F=frE AE l (l.drop 0) 0):=qh hF;have HC0:Hid (C=chL l (l.drop 0) 0):=qh hC;clear hR hF hC;go_enter Tryz.func8,Tryz.ntmps8;go_wp2_with (first|(go_at_call 25;refine(zD9 _ _ _ _).mono ?_;rintro e w' ⟨rfl,rfl⟩)|fail);obtain⟨W0,hW0⟩:∃ W0,w.alloc (.cells #[.int .i64 most,.int .i64 st,.slice A l.length cap] 24)=W0:=⟨_,rfl⟩;have hk0:Blk W0 w.heap.size 24 #[.int .i64 most,.int .i64 st,.slice A l.length cap]:=by rw [<-hW0];exact Blk.new _ _ _
 have HB0:Hid (Below w.heap.size w W0):=qh (by rw [<-hW0];exact HBA.out _);rw [hW0];have HK0:=qh hk0;have hlt0:w.heap.size<W0.heap.size:=Blk.lt hk0;clear hW0 hk0 HBA c1 c2;go_loopw [4] (λ u wr=>∃ k:Nat,u= .int .i64 (k:Int)/\k<=l.length/\Hid (F=frE AE l (l.drop k) k)/\Hid (Below W0.heap.size W0 wr)) (λ u _=>l.length-(intOf u).toNat)
 case atStart=>exact⟨0,rfl,Nat.zero_le _,HF0,qh (Below.refl _ _)⟩
 case round=>
  clear HF0;obtain⟨k,rfl,hk,HF,HB⟩:=hrel;have x2:=Blk.e2 (HK0.out.below HB.out hlt0);have hltr:w.heap.size<wr.heap.size:=Nat.lt_of_lt_of_le hlt0 HB.out.size;by_cases hlk:k<l.length
  . have k1:(k:Int)<(l.length:Int):=(by omega);have k0:(0:Int)<=(k:Int):=(by omega);have kw:IntKind.i64.wrap ((k:Int)+1)=(k:Int)+1:=IntWalk.i64_in _ (by omega);have hRr:=H.out.below ((HB0.out.trans (HB.out.mono (Nat.le_of_lt hlt0))).mono hBw);have HRr:=qh hRr;have hBr:=hRr.hB;obtain⟨r,hr⟩:∃ r,l[k]? =some r:=⟨_,List.getElem?_eq_getElem hlk⟩;obtain⟨ad,rfl,hb,z0,z1,z2,z3,z4,z5,z6,z7,z8⟩:=hRr.at_ hr;have hbw:ad.block<wr.heap.size:=Nat.lt_of_lt_of_le hb hBr;have hok:=hRr.ok r (List.mem_of_getElem? hr);have HRD:=qh hr;obtain⟨id,ph,vs,zs,no,op,arg,xs,ch,VA,vc,ZA,zc,XA,xc⟩:=r;have HOK:=qh hok;dsimp only at z0 z1 z2 z3 z4 z5 z6 z7 z8;clear hRr hr hok;have hNB:∀ o:Obj,Below W0.heap.size W0 (wr.alloc o):=λ o=>HB.out.alloc HB.out.size _
    have HNB:=qh hNB;clear hNB;by_cases g3:id<1\/9999<id\/¬(ph=1\/ph=2)
    . have HR:Hid (R=1):=qh (by
       have e:=KA9 (AE:=AE) (l:=l) (k:=k) (r:=⟨id,ph,vs,zs,no,op,arg,xs,ch,VA,vc,ZA,zc,XA,xc⟩) g3;rw [HRF.out,HF.out,KJ2 HRD.out (by rw [e];decide),e];rfl)
      have hc:inB id 1 9999=false\/(inB id 1 9999=true/\inB ph 1 2=false):=by
       by_cases c:1<=id/\id<=9999
       . exact .inr ⟨Xe9 c,jc6 (by omega)⟩
       . exact .inl (jc6 c)
      clear g3;rcases hc with q1|⟨q1,q2⟩
      all_goals
       go_wp2_with (first|(go_at_call 25;refine(zD9 _ _ _ _).mono ?_;rintro e w' ⟨rfl,rfl⟩)|fail);go_ret;exact⟨by rw [HR.out];rfl,HB0.out.trans ((HNB.out _).mono (Nat.le_of_lt hlt0))⟩
    . have q1:inB id 1 9999=true:=Xe9 (by omega);have q2:inB ph 1 2=true:=Xe9 (by omega);have HG3:=qh g3;clear g3;go_wp2_with (first|(go_at_call 25;refine(zD9 _ _ _ _).mono ?_;rintro e w' ⟨rfl,rfl⟩)|fail);obtain⟨W1,hW1⟩:∃ W1,wr.alloc (.cells #[.int .i64 id,.int .i64 ph,.slice VA vs.length vc,.slice (ZA) zs.length zc,.bool no,.int .i64 op,.string arg,.slice XA xs.length xc,.bool ch] 44)=W1:=⟨_,rfl⟩;have hk1:Blk W1 wr.heap.size 44 #[.int .i64 id,.int .i64 ph,.slice VA vs.length vc,.slice (ZA) zs.length zc,.bool no,.int .i64 op,.string arg,.slice XA xs.length xc,.bool ch]:=(by rw [<-hW1];exact Blk.new _ _ _);have HB1:Hid (Below W0.heap.size W0 W1):=qh (by rw [<-hW1];exact HNB.out _);have hb1:Below wr.heap.size wr W1:=(by rw [<-hW1];exact(Below.refl _ _).alloc (Nat.le_refl _) _);have HR1:=qh (HRr.out.below (hb1.mono hBr));have x21:=Blk.e2 (HK0.out.below HB1.out hlt0);obtain⟨v0,v1,v2,v3,v4,v5,v6,v7,v8⟩:=Blk.c9 hk1;have CO:=qh λ w2 (hb:Below W1.heap.size W1 w2)=>Qf3 AE ⟨id,ph,vs,zs,no,op,arg,xs,ch,VA,vc,ZA,zc,XA,xc⟩ B w2 ((HOK.out.below (hb1.mono hBr)).below (hb.mono (Nat.le_trans hBr hb1.size))) (Nat.le_trans hBr (Nat.le_trans hb1.size hb.size)) (HA.out.below (HB0.out.trans ((HB1.out.trans (hb.mono HB1.out.size)).mono (Nat.le_of_lt hlt0))))
      obtain⟨E,hE⟩:∃ E,E=x79 AE ⟨id,ph,vs,zs,no,op,arg,xs,ch,VA,vc,ZA,zc,XA,xc⟩:=⟨_,rfl⟩;rw [<-hE] at CO;have HE:=qh hE;try rw [hW1]
      clear hE hk1 hb1 hW1 z0 z1 z2 z3 z4 z5 z6 z7 z8 x2 q1 q2;go_loopw [6] (λ u wr'=>∃ m q:Nat,u= .int .i64 (m:Int)/\m<=k/\Hid (∀ j,j<m->∀ y,l[j]? =some y->idB id y=false)/\wr'=W1.drewN q) (λ u _=>k-(intOf u).toNat)
      case atStart=>exact⟨0,0,rfl,Nat.zero_le _,qh λ j hj=>absurd hj (Nat.not_lt_zero _),rfl⟩
      case round=>
       obtain⟨m,q,rfl,hm,HD,rfl⟩:=hrel;by_cases hmk:m<k
       . have m1:(m:Int)<(k:Int):=(by omega);have m0:(0:Int)<=(m:Int):=(by omega);have m2:(m:Int)<(l.length:Int):=(by omega);have mw:IntKind.i64.wrap ((m:Int)+1)=(m:Int)+1:=IntWalk.i64_in _ (by omega);obtain⟨y,hy⟩:∃ y,l[m]? =some y:=⟨_,List.getElem?_eq_getElem (by omega)⟩
         have z0:W1.cell? (ad.add (m*9))=some (.int .i64 y.id):=by
          obtain⟨ad',e,_,h0,_⟩:=HR1.out.at_ hy;cases e;exact h0
         have hyi:idB id y=(y.id==id):=rfl;obtain⟨yi,hyi2⟩:∃ yi,yi=y.id:=⟨_,rfl⟩;rw [<-hyi2] at z0 hyi;have HY:=qh hy;have HYI:=qh hyi;clear hy hyi hyi2;cases hq:(yi==id) with
         |true=>
          have HR:Hid (R=9):=qh (by
           have hany:(l.take k).any (idB id)=true:=List.any_eq_true.2 ⟨y,List.mem_of_getElem? (i:=m) (by rw [List.getElem?_take_of_lt hmk];exact HY.out),by rw [HYI.out];exact hq⟩;have e:=ZK8 (AE:=AE) (r:=⟨id,ph,vs,zs,no,op,arg,xs,ch,VA,vc,ZA,zc,XA,xc⟩) HG3.out hany;rw [HRF.out,HF.out,KJ2 HRD.out (by rw [e];decide),e];rfl)
          go_wp2_with fail;go_quiet (fail)
          go_wp2_with fail;go_ret;exact⟨by rw [HR.out];rfl,HB0.out.trans ((below_drewN (below_drewN HB1.out _) _).mono (Nat.le_of_lt hlt0))⟩
         |false=>
          have HD2:Hid (∀ j,j<m+1->∀ y,l[j]? =some y->idB id y=false):=qh λ j hj y' hy'=>by
           by_cases e:j=m
           . subst e;rw [HY.out] at hy';cases hy';rw [HYI.out];exact hq
           . exact HD.out j (by omega) y' hy'
          go_wp2_with fail;go_quiet (fail)
          go_wp2_with fail;go_roundw
          case rel=>exact⟨m+1,_,by go_num,by omega,HD2,rfl⟩
          case measure=>simp [intOf];omega
       . obtain rfl:m=k:=by omega
         have hany:(l.take m).any (idB id)=false:=by
          rw [List.any_eq_false];intro y hy;obtain⟨i,hi,rfl⟩:=List.mem_iff_getElem.1 hy;rw [List.length_take] at hi;have hi2:i<m:=(by omega);rw [HD.out i hi2 _ (by rw [List.getElem_take];exact List.getElem?_eq_getElem (by omega))];decide
         have HN:Hid (Zh1 AE l m ⟨id,ph,vs,zs,no,op,arg,xs,ch,VA,vc,ZA,zc,XA,xc⟩=E):=qh (by rw [HE.out];exact Za2 HG3.out hany);clear hany HD;go_wp2_with fail;refine(CO.out _ (below_drewN (Below.refl _ _) q)).mono ?_;rintro e w3 ⟨rfl,b3⟩;have HB3:=qh ((below_drewN HB1.out q).trans (b3.mono HB1.out.size));clear b3 v0 v1 v2 v3 v4 v5 v6 v7 v8 x21;by_cases he:E=0
         . have he2:(E !=0)=false:=bne_eq_false_iff_eq.2 he;have HF2:Hid (F=frE AE l (l.drop (m+1)) (m+1)):=qh (by rw [HF.out,jj8 HRD.out (by rw [HN.out];exact he)]);clear he;go_wp2_with fail;go_roundw
           case rel=>exact⟨m+1,by go_num,by omega,HF2,HB3⟩
           case measure=>simp [intOf];omega
         . have he2:(E !=0)=true:=bne_iff_ne.2 he;have HR:Hid (R=E):=qh (by rw [HRF.out,HF.out,KJ2 HRD.out (by rw [HN.out];exact he),HN.out,if_pos he]);clear he;go_wp2_with fail;go_ret;exact⟨by rw [HR.out];rfl,HB0.out.trans (HB3.out.mono (Nat.le_of_lt hlt0))⟩
  . obtain rfl:k=l.length:=(by omega);have HRC:Hid (R=if C=true then 1 else 0):=qh (by rw [HRF.out,HF.out,X81 (Nat.le_refl _),if_neg (by decide)]);clear HF HRF hlk hk;go_wp2_with fail;obtain⟨wm,rfl⟩:∃ wm:World,wm=wr:=⟨_,rfl⟩;go_loopw [8] (λ u wr=>∃ k q:Nat,u= .int .i64 (k:Int)/\k<=l.length/\Hid (C=chL l (l.drop k) k)/\wr=wm.drewN q) (λ u _=>l.length-(intOf u).toNat)
    case atStart=>exact⟨0,0,rfl,Nat.zero_le _,HC0,rfl⟩
    case round=>
     clear HC0;obtain⟨k,q,rfl,hk,HC,rfl⟩:=hrel;by_cases hlk:k<l.length
     . have k1:(k:Int)<(l.length:Int):=(by omega);have k0:(0:Int)<=(k:Int):=(by omega);have kw:IntKind.i64.wrap ((k:Int)+1)=(k:Int)+1:=IntWalk.i64_in _ (by omega);have kl:IntKind.i64.wrap ((l.length:Int)-1)=(l.length:Int)-1:=IntWalk.i64_in _ (by omega);have hRr:=H.out.below ((HB0.out.trans (HB.out.mono (Nat.le_of_lt hlt0))).mono hBw);obtain⟨r,hr⟩:∃ r,l[k]? =some r:=⟨_,List.getElem?_eq_getElem hlk⟩;obtain⟨ad,rfl,hb,z0,z1,z2,z3,z4,z5,z6,z7,z8⟩:=hRr.at_ hr;have HRD:=qh hr
       have HN1:Hid (∀ y,l[k+1]? =some y->wm.cell? ⟨(ad.add ((k+1)*9)).block,(ad.add ((k+1)*9)).off+1,none⟩=some (.int .i64 y.ph)):=qh λ y hy=>by
        obtain⟨ad',e,_,_,h1,_⟩:=hRr.at_ hy;cases e;exact h1
       obtain⟨id,ph,vs,zs,no,op,arg,xs,ch,VA,vc,ZA,zc,XA,xc⟩:=r;dsimp only at z0 z1 z2 z3 z4 z5 z6 z7 z8;clear hRr hr z0 z2 z3 z4 z5 z6 z7;cases ch with
       |false=>
        have HC2:Hid (C=chL l (l.drop (k+1)) (k+1)):=qh (by rw [HC.out,yg2 HRD.out rfl]);go_wp2_with fail;go_quiet (fail)
        go_wp2_with fail;go_roundw
        case rel=>exact⟨k+1,_,by go_num,by omega,HC2,rfl⟩
        case measure=>simp [intOf];omega
       |true=>
        by_cases hlast:k+1=l.length
        . have q1:((k:Int)==((l.length:Int)-1))=true:=beq_iff_eq.2 (by omega)
          have hc:chB l k ⟨id,ph,vs,zs,no,op,arg,xs,true,VA,vc,ZA,zc,XA,xc⟩=true:=by
           unfold chB;rw [List.getElem?_eq_none (by omega)];rfl
          have HR:Hid (R=1):=qh (by rw [HRC.out,HC.out,XW0 HRD.out hc];rfl);clear hlast hc;go_wp2_with fail;go_quiet (fail)
          go_wp2_with fail;go_ret;exact⟨by rw [HR.out];rfl,HB0.out.trans ((below_drewN (below_drewN HB.out _) _).mono (Nat.le_of_lt hlt0))⟩
        . have q1:((k:Int)==((l.length:Int)-1))=false:=beq_eq_false_iff_ne.2 (by omega);have k2:(k:Int)+1<(l.length:Int):=(by omega);have k3:(0:Int)<=(k:Int)+1:=(by omega);have k4:((k:Int)+1).toNat=k+1:=(by omega);obtain⟨y,hy⟩:∃ y,l[k+1]? =some y:=⟨_,List.getElem?_eq_getElem (by omega)⟩;have z9:=HN1.out y hy
          have hc:chB l k ⟨id,ph,vs,zs,no,op,arg,xs,true,VA,vc,ZA,zc,XA,xc⟩= !(y.ph==ph):=by
           unfold chB;rw [hy];rfl
          obtain⟨p2,hp2⟩:∃ p2,y.ph=p2:=⟨_,rfl⟩;rw [hp2] at z9 hc;clear hlast hy hp2 HN1;by_cases hpp:p2=ph
          . have q2:(ph !=p2)=false:=bne_eq_false_iff_eq.2 hpp.symm;have HC2:Hid (C=chL l (l.drop (k+1)) (k+1)):=qh (by rw [HC.out,yg2 HRD.out (by rw [hc,hpp];simp)]);clear hpp hc;go_wp2_with fail;go_quiet (fail)
            go_wp2_with fail;go_roundw
            case rel=>exact⟨k+1,_,by go_num,by omega,HC2,rfl⟩
            case measure=>simp [intOf];omega
          . have q2:(ph !=p2)=true:=bne_iff_ne.2 (λ h=>hpp h.symm);have HR:Hid (R=1):=qh (by rw [HRC.out,HC.out,XW0 HRD.out (by rw [hc];simp [hpp])];rfl);clear hpp hc;go_wp2_with fail;go_quiet (fail)
            go_wp2_with fail;go_ret;exact⟨by rw [HR.out];rfl,HB0.out.trans ((below_drewN (below_drewN HB.out _) _).mono (Nat.le_of_lt hlt0))⟩
     . obtain rfl:k=l.length:=(by omega);have HR:Hid (R=0):=qh (by rw [HRC.out,HC.out,Zo9 (Nat.le_refl _)];rfl);go_wp2_with fail;go_ret;exact⟨by rw [HR.out];rfl,HB0.out.trans ((below_drewN HB.out _).mono (Nat.le_of_lt hlt0))⟩
end
theorem ju5 {s t:ByteArray} (h:t.size<=s.size):(s.extract (s.size-t.size) s.size).data.toList=t.data.toList<->t.data.toList.isSuffixOf s.data.toList=true:=by
 rw [List.isSuffixOf_iff_suffix,Yz8,jS5 s (Nat.le_refl _),List.suffix_iff_eq_drop,qX6,qX6];exact eq_comm
theorem X46 {s t:ByteArray} (h:s.size<t.size):t.data.toList.isSuffixOf s.data.toList=false:=by
 rw [Bool.eq_false_iff];intro hs;have:=(List.isSuffixOf_iff_suffix.1 hs).length_le;rw [qX6,qX6] at this;omega
set_option maxHeartbeats 400000 in
theorem za7 (s t:ByteArray) (w:World) (hs:s.size<=140737488355328) (ht:t.size<=140737488355328):
 Calls Tryz.prog 122 #[.string s,.string t] w λ e w'=>e= .returned (.bool (t.data.toList.isSuffixOf s.data.toList))/\w=w':=by
 by_cases c:t.size<=s.size
 focus
  obtain⟨R,hR⟩:∃ R,R=t.data.toList.isSuffixOf s.data.toList:=⟨_,rfl⟩
  have hX:((s.extract (s.size-t.size) s.size).toList==t.toList)=R:=by
   rw [hR,Bool.eq_iff_iff,beq_iff_eq,Lib.toList_data,Lib.toList_data];exact ju5 c
  have d1:decide ((t.size:Int)<=(s.size:Int))=true:=decide_eq_true (by omega);have d2:(t.size:Int)<=(s.size:Int):=by omega
  have d3:(0:Int)<=(s.size:Int)-(t.size:Int):=by omega
  have d4:(s.size:Int)-(t.size:Int)<=(s.size:Int):=by omega
  have d5:IntKind.i64.wrap ((s.size:Int)-(t.size:Int))=(s.size:Int)-(t.size:Int):=IntWalk.i64_in _ (by omega);have d6:((s.size:Int)-(t.size:Int)).toNat=s.size-t.size:=by omega
  rw [<-hR];clear hR
 rotate_left
 focus
  rw [X46 (by omega)];have d1:decide ((t.size:Int)<=(s.size:Int))=false:=decide_eq_false (by omega);have d2:¬(t.size:Int)<=(s.size:Int):=by omega
 all_goals
  go_enter Tryz.func122,Tryz.ntmps122;go_wp2_with fail;go_ret;exact⟨rfl,rfl⟩
theorem QM1 (l t:List UInt8):atB l 0 t=t.isPrefixOf l:=by
 unfold atB Lib.occAt;simp
def OT (w:World) (B:Nat) (v:Value) (T:List (List UInt8)):Prop:=OS w B v (T.map str)
section
variable {w w':World} {B:Nat} {v:Value} {T:List (List UInt8)}
theorem OT.nil (w:World) (B:Nat):OT w B (.slice none 0 0) []:=OS.nil w B
theorem OT.kept (h:OT w B v T) (hb:Below w.heap.size w w'):OT w' B v T:=OS.kept h hb
theorem OT.low (h:OT w B v T) {H:Nat} (hv:∀ x,v.ownBlock=some x->x<H) (hb:Below H w w'):OT w' B v T:=by
 rcases h.2 with e|⟨x,cap,cur,e,hx,hw,r⟩
 . exact⟨h.1,.inl e⟩
 . exact⟨h.1,.inr ⟨x,cap,cur,e,hx,(hb.block x (hv x (by rw [e];rfl))).trans hw,r⟩⟩
theorem OT.lt (h:OT w B v T):∀ x,v.ownBlock=some x->x<w.heap.size:=λ x hx=>(World.ownsRow.lt h x hx).2
theorem OT.form (h:OT w B v T):∃ A c,v= .slice A T.length c:=by
 obtain⟨A,c,e⟩:=OS.form h;rw [List.length_map] at e;exact⟨A,c,e⟩
theorem OT.at_ {A:Option Addr} {c:Nat} (h:OT w B (.slice A T.length c) T) {k:Nat} (hk:k<T.length):∃ g,A=some ⟨g,0,none⟩/\w.cell? ⟨g,k,none⟩=some (.string (str (T.getD k [])))/\w.cell? ((⟨g,0,none⟩:Addr).add k)=some (.string (str (T.getD k []))):=by
 have hl:(T.map str).length=T.length:=List.length_map _;unfold OT at h;rw [<-hl] at h;obtain⟨g,e,_,_,_,hc⟩:=h.at_ (by omega);have h1:=hc k (by omega);rw [List.getElem_map,<-gD [] hk] at h1
 have e1:(⟨g,0,none⟩:Addr).add k=⟨g,k,none⟩:=by
  by_cases h:k=0
  . subst h;rfl
  . simp [Addr.add,h]
 exact⟨g,e,h1,by rw [e1];exact h1⟩
theorem YX9 {ops:Array Oper} {rest:List Oper} {o:Oper} {a:Act} {Q:Exit->Act->World->Prop} (hgd:o.guard=none) (s x:Operand)
 (ho:o.op= .call {callee:= .builtin .append,args:=#[s,x],argTypes:=#[37,37]})
 (h:OT w B v T) (hs:a.eval s=v) (t:List UInt8)
 (hx:a.eval x= .slice (some ⟨w.heap.size,0,none⟩) 1 1) (hlen:T.length<=1000000000000) (hB:B<=w.heap.size)
 (hK:∀ A c w',OT w' B (.slice A (T.length+1) c) (T++ [t])->Below B w w'->wpList Tryz.prog ops Q rest (a.put o.dst (.slice A (T.length+1) c)) w'):
 wpList Tryz.prog ops Q (o::rest) a (w.alloc (.cells #[.string (str t)] 9)):=by
 refine jN8 hgd s x ho h hs (str t) hx (by rw [List.length_map];exact hlen) hB λ v' w' h1 h2 h3=> ?_
 have e:T.map str++ [str t]=(T++ [t]).map str:=by rw [List.map_append];rfl
 rw [e] at h1;obtain⟨A,c,rfl⟩:=OT.form h1;rw [List.length_append,List.length_singleton] at*;exact hK A c w' h1 h3
theorem ju2 {ops:Array Oper} {rest:List Oper} {o:Oper} {a:Act} {Q:Exit->Act->World->Prop} {B2:Nat} {u:Value} {M:List (List UInt8)} (hgd:o.guard=none) (s x:Operand)
 (ho:o.op= .call {callee:= .builtin .append,args:=#[s,x],argTypes:=#[37,37]})
 (h:OT w B v T) (hs:a.eval s=v) (h2:OT w B2 u M) (hx:a.eval x=u) (hlen:T.length+M.length<=1000000000) (hB:B<=w.heap.size)
 (hK:∀ A c w',OT w' B (.slice A (T.length+M.length) c) (T++M)->Below B w w'->wpList Tryz.prog ops Q rest (a.put o.dst (.slice A (T.length+M.length) c)) w'):
 wpList Tryz.prog ops Q (o::rest) a w:=by
 obtain⟨i0,hi0,hz0,hz1,hz2⟩:=info_parts KY7;obtain⟨A,c,rfl⟩:=h2.form;have hr:=OS.reads (A:=A) (c:=c) (l:=M.map str) (by unfold OT at h2;rw [List.length_map];exact h2);rw [List.length_map] at hr
 refine Yk6 w hgd s x 37 ho B 9 i0 _ 1 16 Tryz.underlying37 hi0 hz0 hz1 hz2 rfl (by decide) v _ _ hs h w.heap.size A M.length c _ hx hr (by
  intro u hu;obtain⟨y,_,rfl⟩:=List.mem_map.1 hu;rfl) (by rw [List.length_map];unfold maxLen;omega) (by rw [List.length_map];omega) hB λ v' w' h3 h4 h5=> ?_
 have h6:OT w' B v' (T++M):=by
  unfold OT OS;have e:(M.map str).length=M.length:=List.length_map _;rw [List.map_append,List.length_append,List.map_append,e];exact h3
 obtain⟨A',c',rfl⟩:=h6.form;rw [List.length_append] at*;exact hK A' c' w' h6 ((Below.refl _ _).grown h4 hB (Kw5 h))
end
def lvP (L:List (List UInt8)) (n:Nat) (T:List (List UInt8)) (up:Nat):List (List UInt8):=lv L n (T.take up)
theorem Ym6 (L:List (List UInt8)) (n:Nat) (T:List (List UInt8)):lvP L n T T.length=lv L n T:=by unfold lvP;rw [List.take_length]
theorem Yk3 {L:List (List UInt8)} {n:Nat} {T:List (List UInt8)} {up:Nat} (h:up<T.length):lvP L n T (up+1)=lvP L n T up++if (T.getD up []).length=n then lvU L (T.getD up []) else []:=by
 unfold lvP lv;rw [List.take_succ_eq_append_getElem h,List.flatMap_append,gD _ h];congr 1;exact List.flatMap_singleton _ _
def nxP (L:List (List UInt8)) (u:List UInt8) (b:Nat):List (List UInt8):=((List.range b).filter λ b=>yI4 L (u++ [bt b])).map λ b=>u++ [bt b]
theorem zL0 (L:List (List UInt8)) (u:List UInt8):nxP L u 0= []:=rfl
theorem Ki5 (L:List (List UInt8)) (u:List UInt8):nxP L u 256=lvU L u:=by unfold nxP lvU nxB;with_reducible rfl
theorem Yd9 {L:List (List UInt8)} {u:List UInt8} {b:Nat} (h:yI4 L (u++ [bt b])=true):nxP L u (b+1)=nxP L u b++ [u++ [bt b]]:=by
 unfold nxP;rw [List.range_succ,List.filter_append,List.map_append];congr 1;rw [List.filter_cons,if_pos h];rfl
theorem Kf3 {L:List (List UInt8)} {u:List UInt8} {b:Nat} (h:yI4 L (u++ [bt b])=false):nxP L u (b+1)=nxP L u b:=by
 unfold nxP;rw [List.range_succ,List.filter_append,List.filter_cons,if_neg (by rw [h];decide)];rw [List.filter_nil,List.append_nil]
theorem yv5 (L:List (List UInt8)) (u:List UInt8) (b:Nat):(nxP L u b).length<=b:=by
 unfold nxP;rw [List.length_map];exact Nat.le_trans (List.length_filter_le _ _) (by rw [List.length_range];exact Nat.le_refl _)
theorem Ye8 (L:List (List UInt8)) (u:List UInt8):(lvU L u).length<=256:=by rw [<-Ki5];exact yv5 L u 256
theorem jE2 (L:List (List UInt8)) (n:Nat) (T:List (List UInt8)) (up:Nat) (h:up<=T.length):(lvP L n T up).length<=up*256:=by
 induction up with
 |zero=>exact Nat.le_refl _
 |succ up ih=>
  have h1:=ih (Nat.le_of_succ_le h)
  have h2:(if (T.getD up []).length=n then lvU L (T.getD up []) else []).length<=256:=by
   split
   . exact Ye8 L _
   . exact Nat.zero_le _
  rw [Yk3 h,List.length_append,Nat.succ_mul];exact Nat.add_le_add h1 h2
theorem jQ0 {L:List (List UInt8)} {t w:List UInt8} (hw:w∈L) (h:t.isPrefixOf w=true):yI4 L t=true:=List.any_eq_true.2 ⟨w,hw,h⟩
theorem Xm5 {L:List (List UInt8)} {t:List UInt8} (h:∀ w∈L,t.isPrefixOf w=false):yI4 L t=false:=by
 unfold yI4;rw [List.any_eq_false];intro w hw;rw [h w hw];decide
def ncC (x:Nat×Nat×Nat×Value):List Value:= [.int .u8 (x.1:Int),.int .i64 (x.2.1:Int),.int .i64 (x.2.2.1:Int),x.2.2.2]
def ncF (l:List (Nat×Nat×Nat×Value)):List Value:=l.flatMap ncC
theorem QA0 (l:List (Nat×Nat×Nat×Value)):(ncF l).length=l.length*4:=by
 unfold ncF
 induction l with
 |nil=>rfl
 |cons x l ih=>rw [List.flatMap_cons,List.length_append,ih,List.length_cons];show 4+_=_;omega
theorem K81 (l m:List (Nat×Nat×Nat×Value)):ncF (l++m)=ncF l++ncF m:=List.flatMap_append
theorem Jc6 {D:List (Nat×Nat×Nat×Value)} {k j:Nat} (hk:k<D.length) (hj:j<4):(ncF D)[k*4+j]? =(ncC D[k])[j]? :=by
 have e:D=D.take k++D[k]::D.drop (k+1):=by rw [<-List.drop_eq_getElem_cons hk,List.take_append_drop]
 conv=>lhs;rw [e]
 have hc:ncF (D[k]::D.drop (k+1))=ncC D[k]++ncF (D.drop (k+1)):=List.flatMap_cons;rw [K81,hc,List.getElem?_append_right (by rw [QA0,List.length_take];omega),QA0,List.length_take,Nat.min_eq_left (by omega),Nat.add_sub_cancel_left,List.getElem?_append_left (by show j<4;exact hj)]
structure Ot (b0 H:Nat) (v:Value) (l:List (Nat×Nat×Nat×Value)) (EN:Nat->List Nat) (wr:World):Prop where
 ow:wr.ownsRow b0 165 4 v l.length (ncF l)
 vo:∀ x,v.ownBlock=some x->x<H
 en:∀ k (hk:k<l.length),OwI wr b0 l[k].2.2.2 (EN k)/\∀ x,l[k].2.2.2.ownBlock=some x->x<H/\v.ownBlock≠some x
 hi:H<=wr.heap.size
 lo:b0<=H
theorem xy1 {w w':World} {B sz n H:Nat} {E:TypeId} {v:Value} {xs:List Value} (h:w.ownsRow B E sz v n xs) (hv:∀ x,v.ownBlock=some x->x<H) (hb:Below H w w'):w'.ownsRow B E sz v n xs:=by
 rcases h.2 with e|⟨x,cap,cur,e,hx,hw,r⟩
 . exact⟨h.1,.inl e⟩
 . exact⟨h.1,.inr ⟨x,cap,cur,e,hx,(hb.block x (hv x (by rw [e];rfl))).trans hw,r⟩⟩
section
variable {b0 H:Nat} {v:Value} {l:List (Nat×Nat×Nat×Value)} {EN:Nat->List Nat} {w wr wr':World}
theorem Ot.nil (b0:Nat) (EN:Nat->List Nat) (wr:World) (h:b0<=wr.heap.size):Ot b0 wr.heap.size (.slice none 0 0) [] EN wr:=⟨World.ownsRow_nil _ _ _ _,λ x hx=>(by cases hx),λ k hk=>absurd hk (Nat.not_lt_zero _),Nat.le_refl _,h⟩
theorem Ot.step (h:Ot b0 H v l EN wr) (hb:Below H wr wr'):Ot b0 H v l EN wr':=
 ⟨xy1 h.ow h.vo hb,h.vo,λ k hk=>⟨xy1 (h.en k hk).1 (λ x hx=>((h.en k hk).2 x hx).1) hb,(h.en k hk).2⟩,Nat.le_trans h.hi hb.size,h.lo⟩
theorem Ot.up (h:Ot b0 H v l EN wr) {H':Nat} (h1:H<=H') (h2:H'<=wr.heap.size):Ot b0 H' v l EN wr:=
 ⟨h.ow,λ x hx=>Nat.lt_of_lt_of_le (h.vo x hx) h1,λ k hk=>⟨(h.en k hk).1,λ x hx=>⟨Nat.lt_of_lt_of_le ((h.en k hk).2 x hx).1 h1,((h.en k hk).2 x hx).2⟩⟩,h2,Nat.le_trans h.lo h1⟩
theorem YY7 {ops:Array Oper} {rest:List Oper} {o:Oper} {a:Act} {Q:Exit->Act->World->Prop} (hgd:o.guard=none) (s x:Operand)
 (ho:o.op= .call {callee:= .builtin .append,args:=#[s,x],argTypes:=#[132,132]})
 (h:Ot b0 H v l EN w) (hs:a.eval s=v) (b u f:Nat) (E:Value) (xs:List Nat) (hE:OwI w H E xs) (hEN:EN l.length=xs)
 (hx:a.eval x= .slice (some ⟨w.heap.size,0,none⟩) 1 1) (hlen:l.length<=1000000)
 (hK:∀ A c w',Ot b0 w'.heap.size (.slice A (l.length+1) c) (l++ [(b,u,f,E)]) EN w'->Below b0 w w'->wpList Tryz.prog ops Q rest (a.put o.dst (.slice A (l.length+1) c)) w'):
 wpList Tryz.prog ops Q (o::rest) a (w.alloc (.cells #[.int .u8 (b:Int),.int .i64 (u:Int),.int .i64 (f:Int),E] 165)):=by
 obtain⟨i0,hi0,hz0,hz1,hz2⟩:=info_parts x49;have hB:b0<=w.heap.size:=Nat.le_trans h.lo h.hi
 refine zM8 (P:=Tryz.prog) (Q:=Q) (rest:=rest) (ops:=ops) hgd s x ho Tryz.underlying132 hi0 hz0 hz1 hz2 rfl (by decide) h.ow hs [.int .u8 (b:Int),.int .i64 (u:Int),.int .i64 (f:Int),E] 1 1 hx rfl (by
  intro y hy;simp only [List.mem_cons,List.not_mem_nil,or_false] at hy;obtain⟨A,c,e⟩:=hE.form;rcases hy with rfl|rfl|rfl|rfl
  . rfl
  . rfl
  . rfl
  . rw [e];rfl) (by unfold maxLen;omega) (by omega) hB λ v' w' h4 h5=> ?_
 have hb:=h5.below hB λ g e=>Kw5 h.ow g e
 have e2:ncF l++ [.int .u8 (b:Int),.int .i64 (u:Int),.int .i64 (f:Int),E]=ncF (l++ [(b,u,f,E)]):=by rw [K81];unfold ncF;simp [ncC]
 rw [e2] at h4;have hEl:=World.ownsRow.lt hE
 have keepE:∀ {V:Value} {m:List Nat},OwI w b0 V m->(∀ x,V.ownBlock=some x->v.ownBlock≠some x)->OwI w' b0 V m:=λ {V m} ho hne=>by
  rcases ho.2 with e|⟨q,cap,cur,e,hq,hw,r⟩
  . exact⟨ho.1,.inl e⟩
  . have hql:q<w.heap.size:=(Array.getElem?_eq_some_iff.1 hw).1;exact⟨ho.1,.inr ⟨q,cap,cur,e,hq,(h5.grown.block q hql (λ e2=>hne q (by rw [e];rfl) e2.symm)).trans hw,r⟩⟩
 have offE:∀ x,x<w.heap.size->v.ownBlock≠some x->v'.ownBlock≠some x:=λ x h1 h2=>h5.off h1 h2
 have hOt:Ot b0 w'.heap.size v' (l++ [(b,u,f,E)]) EN w':=by
  refine⟨by rw [List.length_append,List.length_singleton];exact h4,λ x hx=>(World.ownsRow.lt h4 x hx).2,λ k hk=> ?_,Nat.le_refl _,Nat.le_trans hB hb.size⟩;by_cases hkl:k<l.length
  . rw [List.getElem_append_left hkl];obtain⟨o1,o2⟩:=h.en k hkl;refine⟨keepE o1 λ x hx=>(o2 x hx).2,λ x hx=> ?_⟩;have h6:=(World.ownsRow.lt o1 x hx).2;exact⟨Nat.lt_of_lt_of_le h6 hb.size,offE x h6 (o2 x hx).2⟩
  . have hk2:k=l.length:=(by rw [List.length_append,List.length_singleton] at hk;omega);subst hk2;rw [List.getElem_append_right (Nat.le_refl _)];simp only [Nat.sub_self,List.getElem_cons_zero]
    have hne:∀ x,E.ownBlock=some x->v.ownBlock≠some x:=λ x hx e=>by
     have h7:=(hEl x hx).1;have h8:=h.vo x e;omega
    refine⟨?_,λ x hx=>⟨Nat.lt_of_lt_of_le (hEl x hx).2 hb.size,offE x (hEl x hx).2 (hne x hx)⟩⟩;rw [hEN];exact keepE (hE.more h.lo) hne
 rcases h4.2 with⟨_,h0⟩|⟨g,cap,cur,e1,_⟩
 . omega
 . subst e1;exact hK _ _ w' hOt hb
theorem Ot.tree {A:Option Addr} {c:Nat} {D:List (Nat×Nat×Nat)} (h:Ot b0 H (.slice A l.length c) l EN wr) (hD:D.length=l.length) (hn:∀ k (hk:k<l.length),(l[k].1,l[k].2.1,l[k].2.2.1)=D.getD k (0,0,0)):TreeM wr wr.heap.size A D EN:=λ k hk=>by
 rcases h.ow.2 with⟨_,h0⟩|⟨g,cap,cur,e1,_,hg,_⟩
 . omega
 . injection e1 with e1 _ _;subst e1;have hgl:g<wr.heap.size:=(Array.getElem?_eq_some_iff.1 hg).1;have hkl:k<l.length:=by omega
   have key:∀ j,j<4->wr.cell? ⟨g,k*4+j,none⟩=(ncC l[k])[j]? :=λ j hj=>by
    have h1:=Jc6 hkl hj;have hj2:j<(ncC l[k]).length:=hj;rw [List.getElem?_eq_getElem hj2] at h1⊢;have h2:=World.ownsRow.cells h.ow (g:=g) rfl (k*4+j) _ h1
    have e1:(⟨g,0,none⟩:Addr).add (k*4+j)=⟨g,k*4+j,none⟩:=by
     by_cases h:k*4+j=0
     . rw [h];rfl
     . unfold Addr.add;rw [if_neg h];simp
    rw [e1] at h2;exact h2
   have hn1:=hn k hkl;rw [<-hn1];obtain⟨o1,_⟩:=h.en k hkl;obtain⟨E,ce,e⟩:=o1.form;refine⟨g,rfl,hgl,key 0 (by omega),key 1 (by omega),key 2 (by omega),E,ce,?_,?_⟩
   . rw [key 3 (by omega),<-e];rfl
   . unfold OwI at o1;rw [e] at o1;exact Reads.of_own o1
end
def enP (L:List (List UInt8)) (t:List UInt8) (k:Nat):List Nat:=(List.range k).filter λ q=>(L.getD q []).isSuffixOf t
theorem jZ0 (L:List (List UInt8)) (t:List UInt8):enP L t L.length=enI L t:=rfl
theorem Ze5 {L:List (List UInt8)} {t:List UInt8} {k:Nat} (h:(L.getD k []).isSuffixOf t=true):enP L t (k+1)=enP L t k++ [k]:=by
 unfold enP;rw [List.range_succ,List.filter_append];congr 1;rw [List.filter_cons,if_pos h];rfl
theorem zK9 {L:List (List UInt8)} {t:List UInt8} {k:Nat} (h:(L.getD k []).isSuffixOf t=false):enP L t (k+1)=enP L t k:=by
 unfold enP;rw [List.range_succ,List.filter_append,List.filter_cons,if_neg (by rw [h];decide),List.filter_nil,List.append_nil]
theorem qt5 (L:List (List UInt8)) (t:List UInt8) (k:Nat):(enP L t k).length<=k:=Nat.le_trans (List.length_filter_le _ _) (by rw [List.length_range];exact Nat.le_refl _)
theorem qU9 {T:List (List UInt8)} {t:List UInt8} {k:Nat} (h1:(T.getD k []).length<t.length) (h2:(T.getD k []).isSuffixOf t=true):flN T t (k+1)=k:=by
 rw [flN,if_pos ⟨h1,h2⟩]
theorem x96 {T:List (List UInt8)} {t:List UInt8} {k:Nat} (h:¬((T.getD k []).length<t.length/\(T.getD k []).isSuffixOf t=true)):flN T t (k+1)=flN T t k:=by
 rw [flN];exact if_neg h
theorem Q78 {T:List (List UInt8)} (h:Gd T):ndI T (T.getD 0 [])=(0,0,0):=by
 rw [h.he];unfold ndI;rw [yl4]
 have e:upI T []=0:=by
  unfold upI;show ix T []=0;rw [<-h.he];exact kt5 h.nd h.po
 rw [e];rfl
theorem Jk7 {T:List (List UInt8)} {t:List UInt8} (hn:T.Nodup) (h:t∈T):Lib.idxOfS (T.map str) (str t)=(ix T t:Int):=by
 have h1:=KP1 h;have hl:(T.map str).length=T.length:=List.length_map _
 have hg:∀ j,j<T.length->(T.map str).getD j ByteArray.empty=str (T.getD j []):=λ j hj=>by
  rw [gD _ (by rw [hl];exact hj),List.getElem_map,gD _ hj]
 have h2:=Lib.idxOfS_hit (T.map str) T.length (ix T t) (str t) h1 (by rw [hl];exact Nat.le_refl _) (by rw [hg _ h1,JA8 h]) (λ j hj e=>by
  have hjl:j<T.length:=by omega
  rw [hg j hjl] at e
  have e2:T.getD j []=t:=by
   have:=congrArg lst e;rw [Yh4,Yh4] at this;exact this
  have h3:=q75 hn hjl h1 (by rw [e2,JA8 h]);omega)
 rw [List.take_of_length_le (by rw [hl];exact Nat.le_refl _)] at h2;exact h2
theorem XX0 {t:List UInt8} (h:0<t.length):byI t=((str t)[(str t).size-1]'(by rw [Xp5];omega)).toNat:=by
 have e:t.getLast? =some (t[t.length-1]'(by omega)):=by
  rw [List.getLast?_eq_getElem?,List.getElem?_eq_getElem (by omega)]
 unfold byI;rw [e];have e2:=Kb1 (str t) ((str t).size-1) (by rw [Xp5];omega);rw [<-e2];congr 1
end Go.Proofs.YtngepacmgabmaaaGreatDoor
