/- Walk: wickref.Rules, given what wickref.; Sets of bytes: four words of 64 bits; is .. -/
import Derived.Test.YtngepacmgabmaaaGreatDoorGl
import Derived.WalkSmall
namespace Go.Proofs.YtngepacmgabmaaaGreatDoor
open Go.RowKit
set_option linter.unusedVariables false
set_option linter.unusedSimpArgs false
section
variable (AE:Int->ByteArray->Int) (most st:Int) (l:List Ru) (A:Option Addr) (cap B:Nat) (w:World)
set_option maxRecDepth 100000 in
set_option maxHeartbeats 8000000 in
theorem KR1 (h:RuR w B A cap l) (hA:ArgOk 57 AE w):
 Calls Tryz.prog 8 #[.agg #[.int .i64 most,.int .i64 st,.slice A l.length cap]] w λ e w'=>e= .returned (.int .i64 (QR3 AE most st l))/\Below w.heap.size w w':=by
 obtain⟨hlc,hcc⟩:=h.hc;obtain⟨R,hR⟩:∃ R,R=QR3 AE most st l:=⟨_,rfl⟩;rw [<-hR];unfold QR3 at hR;have H:=qh h;have hBw:=h.hB;have HA:=qh hA;clear h hA;have hba:∀ o:Obj,Below w.heap.size w (w.alloc o):=λ o=>(Below.refl _ _).alloc (Nat.le_refl _) _
 have HBA:=qh hba;clear hba;by_cases g1:most<1\/1000000<most\/st<400\/599<st
 . have HR:Hid (R=1):=qh (by rw [hR,if_pos g1]);clear hR
   have hc:inB most 1 1000000=false\/(inB most 1 1000000=true/\inB st 400 599=false):=by
    by_cases c:1<=most/\most<=1000000
    . exact .inr ⟨Xe9 c,jc6 (by omega)⟩
    . exact .inl (jc6 c)
   clear g1;rcases hc with c1|⟨c1,c2⟩
   all_goals
    go_enter Tryz.func8,Tryz.ntmps8;go_wp2_with (first|(go_at_call 25;refine(zD9 _ _ _ _).mono ?_;rintro e w' ⟨rfl,rfl⟩)|fail);go_ret;exact⟨by rw [HR.out];rfl,HBA.out _⟩
 rw [if_neg g1] at hR;have c1:inB most 1 1000000=true:=Xe9 (by omega);have c2:inB st 400 599=true:=Xe9 (by omega);clear g1;by_cases g2:40<l.length
 . have HR:Hid (R=2):=qh (by rw [hR,if_pos g2]);have d1:(40:Int)<(l.length:Int):=(by omega);clear hR;go_enter Tryz.func8,Tryz.ntmps8;go_wp2_with (first|(go_at_call 25;refine(zD9 _ _ _ _).mono ?_;rintro e w' ⟨rfl,rfl⟩)|fail);go_ret;exact⟨by rw [HR.out];rfl,HBA.out _⟩
 rw [if_neg g2] at hR;have d1:¬(40:Int)<(l.length:Int):=by omega
 have hl40:l.length<=40:=by omega
 clear g2;obtain⟨F,hF⟩:∃ F,F=frE AE l l 0:=⟨_,rfl⟩;obtain⟨C,hC⟩:∃ C,C=chL l l 0:=⟨_,rfl⟩;rw [<-hF,<-hC] at hR;have HRF:=qh hR;have HF0:Hid (F=frE AE l (l.drop 0) 0):=qh hF;have HC0:Hid (C=chL l (l.drop 0) 0):=qh hC;clear hR hF hC;go_enter Tryz.func8,Tryz.ntmps8;go_wp2_with (first|(go_at_call 25;refine(zD9 _ _ _ _).mono ?_;rintro e w' ⟨rfl,rfl⟩)|fail);obtain⟨W0,hW0⟩:∃ W0,w.alloc (.cells #[.int .i64 most,.int .i64 st,.slice A l.length cap] 24)=W0:=⟨_,rfl⟩;have hk0:Blk W0 w.heap.size 24 #[.int .i64 most,.int .i64 st,.slice A l.length cap]:=by rw [<-hW0];exact Blk.new _ _ _
 have HB0:Hid (Below w.heap.size w W0):=qh (by rw [<-hW0];exact HBA.out _);rw [hW0];have HK0:=qh hk0;have hlt0:w.heap.size<W0.heap.size:=Blk.lt hk0;clear hW0 hk0 HBA c1 c2;go_loopw [4] (λ u wr=>∃ k:Nat,u= .int .i64 (k:Int)/\k<=l.length/\Hid (F=frE AE l (l.drop k) k)/\Hid (Below W0.heap.size W0 wr)) (λ u _=>l.length-(intOf u).toNat)
 case atStart=>exact⟨0,rfl,Nat.zero_le _,HF0,qh (Below.refl _ _)⟩
 case round=>
  clear HF0;obtain⟨k,rfl,hk,HF,HB⟩:=hrel;have x2:=Blk.e2 (HK0.out.below HB.out hlt0);have hltr:w.heap.size<wr.heap.size:=Nat.lt_of_lt_of_le hlt0 HB.out.size;by_cases hlk:k<l.length
  . have k1:(k:Int)<(l.length:Int):=(by omega);have k0:(0:Int)<=(k:Int):=(by omega);have kw:IntKind.i64.wrap ((k:Int)+1)=(k:Int)+1:=IntWalk.i64_in _ (by omega);have hRr:=H.out.below ((HB0.out.trans (HB.out.mono (Nat.le_of_lt hlt0))).mono hBw);have HRr:=qh hRr;have hBr:=hRr.hB;obtain⟨r,hr⟩:∃ r,l[k]? =some r:=⟨_,List.getElem?_eq_getElem hlk⟩;obtain⟨ad,rfl,hb,z0,z1,z2,z3,z4,z5,z6,z7,z8⟩:=hRr.at_ hr;have hbw:ad.block<wr.heap.size:=Nat.lt_of_lt_of_le hb hBr;have hok:=hRr.ok r (List.mem_of_getElem? hr);have HRD:=qh hr;obtain⟨id,ph,vs,zs,no,op,arg,xs,ch,VA,vc,ZA,zc,XA,xc⟩:=r;have HOK:=qh hok;dsimp only at z0 z1 z2 z3 z4 z5 z6 z7 z8;clear hRr hr hok;have hNB:∀ o:Obj,Below W0.heap.size W0 (wr.alloc o):=λ o=>HB.out.alloc HB.out.size _
    have HNB:=qh hNB;clear hNB;by_cases g3:id<1\/9999<id\/¬(ph=1\/ph=2)
    . have HR:Hid (R=1):=qh (by
       have e:=KA9 (AE:=AE) (l:=l) (k:=k) (r:=⟨id,ph,vs,zs,no,op,arg,xs,ch,VA,vc,ZA,zc,XA,xc⟩) g3;rw [HRF.out,HF.out,KJ2 HRD.out (by rw [e];decide),e];rfl)
      have hc:inB id 1 9999=false\/(inB id 1 9999=true/\inB ph 1 2=false):=by
       by_cases c:1<=id/\id<=9999
       . exact .inr ⟨Xe9 c,jc6 (by omega)⟩
       . exact .inl (jc6 c)
      clear g3;rcases hc with q1|⟨q1,q2⟩
      all_goals
       go_wp2_with (first|(go_at_call 25;refine(zD9 _ _ _ _).mono ?_;rintro e w' ⟨rfl,rfl⟩)|fail);go_ret;exact⟨by rw [HR.out];rfl,HB0.out.trans ((HNB.out _).mono (Nat.le_of_lt hlt0))⟩
    . have q1:inB id 1 9999=true:=Xe9 (by omega);have q2:inB ph 1 2=true:=Xe9 (by omega);have HG3:=qh g3;clear g3;go_wp2_with (first|(go_at_call 25;refine(zD9 _ _ _ _).mono ?_;rintro e w' ⟨rfl,rfl⟩)|fail);obtain⟨W1,hW1⟩:∃ W1,wr.alloc (.cells #[.int .i64 id,.int .i64 ph,.slice VA vs.length vc,.slice (ZA) zs.length zc,.bool no,.int .i64 op,.string arg,.slice XA xs.length xc,.bool ch] 44)=W1:=⟨_,rfl⟩;have hk1:Blk W1 wr.heap.size 44 #[.int .i64 id,.int .i64 ph,.slice VA vs.length vc,.slice (ZA) zs.length zc,.bool no,.int .i64 op,.string arg,.slice XA xs.length xc,.bool ch]:=(by rw [<-hW1];exact Blk.new _ _ _);have HB1:Hid (Below W0.heap.size W0 W1):=qh (by rw [<-hW1];exact HNB.out _);have hb1:Below wr.heap.size wr W1:=(by rw [<-hW1];exact(Below.refl _ _).alloc (Nat.le_refl _) _);have HR1:=qh (HRr.out.below (hb1.mono hBr));have x21:=Blk.e2 (HK0.out.below HB1.out hlt0);obtain⟨v0,v1,v2,v3,v4,v5,v6,v7,v8⟩:=Blk.c9 hk1;have CO:=qh λ w2 (hb:Below W1.heap.size W1 w2)=>Qf3 AE ⟨id,ph,vs,zs,no,op,arg,xs,ch,VA,vc,ZA,zc,XA,xc⟩ B w2 ((HOK.out.below (hb1.mono hBr)).below (hb.mono (Nat.le_trans hBr hb1.size))) (Nat.le_trans hBr (Nat.le_trans hb1.size hb.size)) (HA.out.below (HB0.out.trans ((HB1.out.trans (hb.mono HB1.out.size)).mono (Nat.le_of_lt hlt0))))
      obtain⟨E,hE⟩:∃ E,E=x79 AE ⟨id,ph,vs,zs,no,op,arg,xs,ch,VA,vc,ZA,zc,XA,xc⟩:=⟨_,rfl⟩;rw [<-hE] at CO;have HE:=qh hE;try rw [hW1]
      clear hE hk1 hb1 hW1 z0 z1 z2 z3 z4 z5 z6 z7 z8 x2 q1 q2;go_loopw [6] (λ u wr'=>∃ m q:Nat,u= .int .i64 (m:Int)/\m<=k/\Hid (∀ j,j<m->∀ y,l[j]? =some y->idB id y=false)/\wr'=W1.drewN q) (λ u _=>k-(intOf u).toNat)
      case atStart=>exact⟨0,0,rfl,Nat.zero_le _,qh λ j hj=>absurd hj (Nat.not_lt_zero _),rfl⟩
      case round=>
       obtain⟨m,q,rfl,hm,HD,rfl⟩:=hrel;by_cases hmk:m<k
       . have m1:(m:Int)<(k:Int):=(by omega);have m0:(0:Int)<=(m:Int):=(by omega);have m2:(m:Int)<(l.length:Int):=(by omega);have mw:IntKind.i64.wrap ((m:Int)+1)=(m:Int)+1:=IntWalk.i64_in _ (by omega);obtain⟨y,hy⟩:∃ y,l[m]? =some y:=⟨_,List.getElem?_eq_getElem (by omega)⟩
         have z0:W1.cell? (ad.add (m*9))=some (.int .i64 y.id):=by
          obtain⟨ad',e,_,h0,_⟩:=HR1.out.at_ hy;cases e;exact h0
         have hyi:idB id y=(y.id==id):=rfl;obtain⟨yi,hyi2⟩:∃ yi,yi=y.id:=⟨_,rfl⟩;rw [<-hyi2] at z0 hyi;have HY:=qh hy;have HYI:=qh hyi;clear hy hyi hyi2;cases hq:(yi==id) with
         |true=>
          have HR:Hid (R=9):=qh (by
           have hany:(l.take k).any (idB id)=true:=List.any_eq_true.2 ⟨y,List.mem_of_getElem? (i:=m) (by rw [List.getElem?_take_of_lt hmk];exact HY.out),by rw [HYI.out];exact hq⟩;have e:=ZK8 (AE:=AE) (r:=⟨id,ph,vs,zs,no,op,arg,xs,ch,VA,vc,ZA,zc,XA,xc⟩) HG3.out hany;rw [HRF.out,HF.out,KJ2 HRD.out (by rw [e];decide),e];rfl)
          go_wp2_with fail;go_quiet (fail)
          go_wp2_with fail;go_ret;exact⟨by rw [HR.out];rfl,HB0.out.trans ((below_drewN (below_drewN HB1.out _) _).mono (Nat.le_of_lt hlt0))⟩
         |false=>
          have HD2:Hid (∀ j,j<m+1->∀ y,l[j]? =some y->idB id y=false):=qh λ j hj y' hy'=>by
           by_cases e:j=m
           . subst e;rw [HY.out] at hy';cases hy';rw [HYI.out];exact hq
           . exact HD.out j (by omega) y' hy'
          go_wp2_with fail;go_quiet (fail)
          go_wp2_with fail;go_roundw
          case rel=>exact⟨m+1,_,by go_num,by omega,HD2,rfl⟩
          case measure=>simp [intOf];omega
       . obtain rfl:m=k:=by omega
         have hany:(l.take m).any (idB id)=false:=by
          rw [List.any_eq_false];intro y hy;obtain⟨i,hi,rfl⟩:=List.mem_iff_getElem.1 hy;rw [List.length_take] at hi;have hi2:i<m:=(by omega);rw [HD.out i hi2 _ (by rw [List.getElem_take];exact List.getElem?_eq_getElem (by omega))];decide
         have HN:Hid (Zh1 AE l m ⟨id,ph,vs,zs,no,op,arg,xs,ch,VA,vc,ZA,zc,XA,xc⟩=E):=qh (by rw [HE.out];exact Za2 HG3.out hany);clear hany HD;go_wp2_with fail;refine(CO.out _ (below_drewN (Below.refl _ _) q)).mono ?_;rintro e w3 ⟨rfl,b3⟩;have HB3:=qh ((below_drewN HB1.out q).trans (b3.mono HB1.out.size));clear b3 v0 v1 v2 v3 v4 v5 v6 v7 v8 x21;by_cases he:E=0
         . have he2:(E !=0)=false:=bne_eq_false_iff_eq.2 he;have HF2:Hid (F=frE AE l (l.drop (m+1)) (m+1)):=qh (by rw [HF.out,jj8 HRD.out (by rw [HN.out];exact he)]);clear he;go_wp2_with fail;go_roundw
           case rel=>exact⟨m+1,by go_num,by omega,HF2,HB3⟩
           case measure=>simp [intOf];omega
         . have he2:(E !=0)=true:=bne_iff_ne.2 he;have HR:Hid (R=E):=qh (by rw [HRF.out,HF.out,KJ2 HRD.out (by rw [HN.out];exact he),HN.out,if_pos he]);clear he;go_wp2_with fail;go_ret;exact⟨by rw [HR.out];rfl,HB0.out.trans (HB3.out.mono (Nat.le_of_lt hlt0))⟩
  . obtain rfl:k=l.length:=(by omega);have HRC:Hid (R=if C=true then 1 else 0):=qh (by rw [HRF.out,HF.out,X81 (Nat.le_refl _),if_neg (by decide)]);clear HF HRF hlk hk;go_wp2_with fail;obtain⟨wm,rfl⟩:∃ wm:World,wm=wr:=⟨_,rfl⟩;go_loopw [8] (λ u wr=>∃ k q:Nat,u= .int .i64 (k:Int)/\k<=l.length/\Hid (C=chL l (l.drop k) k)/\wr=wm.drewN q) (λ u _=>l.length-(intOf u).toNat)
    case atStart=>exact⟨0,0,rfl,Nat.zero_le _,HC0,rfl⟩
    case round=>
     clear HC0;obtain⟨k,q,rfl,hk,HC,rfl⟩:=hrel;by_cases hlk:k<l.length
     . have k1:(k:Int)<(l.length:Int):=(by omega);have k0:(0:Int)<=(k:Int):=(by omega);have kw:IntKind.i64.wrap ((k:Int)+1)=(k:Int)+1:=IntWalk.i64_in _ (by omega);have kl:IntKind.i64.wrap ((l.length:Int)-1)=(l.length:Int)-1:=IntWalk.i64_in _ (by omega);have hRr:=H.out.below ((HB0.out.trans (HB.out.mono (Nat.le_of_lt hlt0))).mono hBw);obtain⟨r,hr⟩:∃ r,l[k]? =some r:=⟨_,List.getElem?_eq_getElem hlk⟩;obtain⟨ad,rfl,hb,z0,z1,z2,z3,z4,z5,z6,z7,z8⟩:=hRr.at_ hr;have HRD:=qh hr
       have HN1:Hid (∀ y,l[k+1]? =some y->wm.cell? ⟨(ad.add ((k+1)*9)).block,(ad.add ((k+1)*9)).off+1,none⟩=some (.int .i64 y.ph)):=qh λ y hy=>by
        obtain⟨ad',e,_,_,h1,_⟩:=hRr.at_ hy;cases e;exact h1
       obtain⟨id,ph,vs,zs,no,op,arg,xs,ch,VA,vc,ZA,zc,XA,xc⟩:=r;dsimp only at z0 z1 z2 z3 z4 z5 z6 z7 z8;clear hRr hr z0 z2 z3 z4 z5 z6 z7;cases ch with
       |false=>
        have HC2:Hid (C=chL l (l.drop (k+1)) (k+1)):=qh (by rw [HC.out,yg2 HRD.out rfl]);go_wp2_with fail;go_quiet (fail)
        go_wp2_with fail;go_roundw
        case rel=>exact⟨k+1,_,by go_num,by omega,HC2,rfl⟩
        case measure=>simp [intOf];omega
       |true=>
        by_cases hlast:k+1=l.length
        . have q1:((k:Int)==((l.length:Int)-1))=true:=beq_iff_eq.2 (by omega)
          have hc:chB l k ⟨id,ph,vs,zs,no,op,arg,xs,true,VA,vc,ZA,zc,XA,xc⟩=true:=by
           unfold chB;rw [List.getElem?_eq_none (by omega)];rfl
          have HR:Hid (R=1):=qh (by rw [HRC.out,HC.out,XW0 HRD.out hc];rfl);clear hlast hc;go_wp2_with fail;go_quiet (fail)
          go_wp2_with fail;go_ret;exact⟨by rw [HR.out];rfl,HB0.out.trans ((below_drewN (below_drewN HB.out _) _).mono (Nat.le_of_lt hlt0))⟩
        . have q1:((k:Int)==((l.length:Int)-1))=false:=beq_eq_false_iff_ne.2 (by omega);have k2:(k:Int)+1<(l.length:Int):=(by omega);have k3:(0:Int)<=(k:Int)+1:=(by omega);have k4:((k:Int)+1).toNat=k+1:=(by omega);obtain⟨y,hy⟩:∃ y,l[k+1]? =some y:=⟨_,List.getElem?_eq_getElem (by omega)⟩;have z9:=HN1.out y hy
          have hc:chB l k ⟨id,ph,vs,zs,no,op,arg,xs,true,VA,vc,ZA,zc,XA,xc⟩= !(y.ph==ph):=by
           unfold chB;rw [hy];rfl
          obtain⟨p2,hp2⟩:∃ p2,y.ph=p2:=⟨_,rfl⟩;rw [hp2] at z9 hc;clear hlast hy hp2 HN1;by_cases hpp:p2=ph
          . have q2:(ph !=p2)=false:=bne_eq_false_iff_eq.2 hpp.symm;have HC2:Hid (C=chL l (l.drop (k+1)) (k+1)):=qh (by rw [HC.out,yg2 HRD.out (by rw [hc,hpp];simp)]);clear hpp hc;go_wp2_with fail;go_quiet (fail)
            go_wp2_with fail;go_roundw
            case rel=>exact⟨k+1,_,by go_num,by omega,HC2,rfl⟩
            case measure=>simp [intOf];omega
          . have q2:(ph !=p2)=true:=bne_iff_ne.2 (λ h=>hpp h.symm);have HR:Hid (R=1):=qh (by rw [HRC.out,HC.out,XW0 HRD.out (by rw [hc];simp [hpp])];rfl);clear hpp hc;go_wp2_with fail;go_quiet (fail)
            go_wp2_with fail;go_ret;exact⟨by rw [HR.out];rfl,HB0.out.trans ((below_drewN (below_drewN HB.out _) _).mono (Nat.le_of_lt hlt0))⟩
     . obtain rfl:k=l.length:=(by omega);have HR:Hid (R=0):=qh (by rw [HRC.out,HC.out,Zo9 (Nat.le_refl _)];rfl);go_wp2_with fail;go_ret;exact⟨by rw [HR.out];rfl,HB0.out.trans ((below_drewN HB.out _).mono (Nat.le_of_lt hlt0))⟩
end
structure Q4 where
 (a b c d:Nat)
def Q4.ok (s:Q4):Prop:=s.a<18446744073709551616/\s.b<18446744073709551616/\s.c<18446744073709551616/\s.d<18446744073709551616
def Q4.zero (s:Q4):Bool:=s.a==0&&s.b==0&&s.c==0&&s.d==0
abbrev Q4.vals (s:Q4):List Value:= [.int .u64 (s.a:Int),.int .u64 (s.b:Int),.int .u64 (s.c:Int),.int .u64 (s.d:Int)]
theorem K65 {s:Q4} (h:s.zero=true):s=⟨0,0,0,0⟩:=by
 obtain⟨a,b,c,d⟩:=s;simp [Q4.zero] at h;obtain⟨⟨⟨rfl,rfl⟩,rfl⟩,rfl⟩:=h;rfl
def Q4.word (s:Q4) (k:Nat):Nat:=if k=0 then s.a else if k=1 then s.b else if k=2 then s.c else s.d
def k32 (s:Q4) (b:Nat):Bool:=decide (s.word (b/64)/2^(b%64)%2=1)
theorem yA6 {b:Nat} (hb:b<=255):(b/64=0/\(b:Int)/64=0)\/(b/64=1/\(b:Int)/64=1)\/(b/64=2/\(b:Int)/64=2)\/(b/64=3/\(b:Int)/64=3):=by omega
theorem qU3 (x k:Nat):((x/2^k:Nat):Int)=(x:Int)/2^k:=by simp
theorem yd4 (m:Nat):((m:Int)%2==1)=decide (m%2=1):=by
 rw [Bool.eq_iff_iff,beq_iff_eq,decide_eq_true_eq];omega
theorem Z80 (x k:Nat):(((x:Int)/2^k).tmod 2==1)=decide (x/2^k%2=1):=by
 rw [<-qU3];obtain⟨m,hm⟩:∃ m,m=x/2^k:=⟨_,rfl⟩;rw [<-hm];rw [Int.tmod_eq_emod_of_nonneg (by omega),yd4]
section
open Go.RowKit Go.ChangeShapes
inductive Rx where
 |mk (k:Int) (s:Q4) (ks:List Rx)
def Rx.k:Rx->Int
 | .mk k _ _=>k
def Rx.s:Rx->Q4
 | .mk _ s _=>s
def Rx.ks:Rx->List Rx
 | .mk _ _ ks=>ks
abbrev ZF1 (k:Int) (s:Q4) (A:Option Addr) (n cap:Nat):List Value:= [.int .i64 k,.int .u64 (s.a:Int),.int .u64 (s.b:Int),.int .u64 (s.c:Int),.int .u64 (s.d:Int),.slice A n cap]
def RxC (w:World) (B:Nat):Nat->Rx->List Value->Prop
 |0,_,_=>False
 |n+1,r,cs=>r.s.ok/\(-9223372036854775808<=r.k/\r.k<=9223372036854775807)/\∃ (A:Option Addr) (cap:Nat),cs=ZF1 r.k r.s A r.ks.length cap/\r.ks.length<=cap/\cap<=9223372036854775807/\
  (0<r.ks.length->∃ ad,A=some ad/\ad.block<B)/\
  ∀ i x,r.ks[i]? =some x->∃ ad cs',A=some ad/\(∀ j u,cs'[j]? =some u->w.cell? (ad.add (i*6+j))=some u)/\RxC w B n x cs'
theorem RxC.keep {w w':World} {B:Nat} (hk:∀ p:Addr,p.block<B->w'.cell? p=w.cell? p):∀ {n:Nat} {r:Rx} {cs:List Value},RxC w B n r cs->RxC w' B n r cs
 |0,_,_,h=>h
 |n+1,r,cs,⟨h1,h2,A,cap,h3,h4,h5,h6,h7⟩=>⟨h1,h2,A,cap,h3,h4,h5,h6,λ i x hi=>by
  obtain⟨ad,cs',e,hc,hr⟩:=h7 i x hi
  obtain⟨ad',e',hb⟩:=h6 (by
   rcases Nat.eq_zero_or_pos r.ks.length with h|h
   . rw [List.getElem?_eq_none (by omega)] at hi;cases hi
   . exact h)
  rw [e] at e';injection e' with e';subst e';exact⟨ad,cs',e,λ j u hu=>(hk _ (by rw [ZE9];exact hb)).trans (hc j u hu),RxC.keep hk hr⟩⟩
theorem RxC.below {w w':World} {B:Nat} {n:Nat} {r:Rx} {cs:List Value} (h:RxC w B n r cs) (hb:Below B w w'):RxC w' B n r cs:=h.keep λ _ hp=>hb.cell hp
theorem RxC.alloc {w:World} {B:Nat} {n:Nat} {r:Rx} {cs:List Value} (h:RxC w B n r cs) (hB:B<=w.heap.size) (o:Obj):RxC (w.alloc o) B n r cs:=h.keep λ p hp=>World.cell?_alloc_lt w o p (by omega)
theorem RxC.drew {w:World} {B:Nat} {n:Nat} {r:Rx} {cs:List Value} (h:RxC w B n r cs):RxC w.drew B n r cs:=RxC.keep (w:=w) (w':=w.drew) (λ _ _=>rfl) h
def Z72 (k:Int):Int:=if k=4\/k=5 then 2 else if k=6 then 1 else if k=1\/k=2\/k=3\/k=7\/k=8 then 0 else-1
def okR (r:Rx):Bool:=Z72 r.k==(r.ks.length:Int)&&((r.k==3)== !r.s.zero)
def xy6 (f:Rx->Nat->Int×Nat):List Rx->Nat->Int×Nat
 | [],m=>(0,m)
 |k::ks,m=>if (f k m).1≠0 then f k m else xy6 f ks (f k m).2
def chk:Nat->Rx->Int->Nat->Int×Nat
 |0,_,_,m=>(0,m)
 |n+1,r,deep,m=>if 80<m+1 then (2,m+1) else if 20<deep then (11,m+1) else if okR r=false then (1,m+1) else xy6 (λ k m=>chk n k (deep+1) m) r.ks (m+1)
theorem X58 {f:Rx->Nat->Int×Nat} (hf:∀ k m,m<=(f k m).2/\((f k m).1=0->m<=80->(f k m).2<=80)):∀ (ks:List Rx) (m:Nat),m<=(xy6 f ks m).2/\((xy6 f ks m).1=0->m<=80->(xy6 f ks m).2<=80)
 | [],m=>⟨Nat.le_refl _,λ _ h=>h⟩
 |k::ks,m=>by
  unfold xy6;by_cases h:(f k m).1≠0
  . rw [if_pos h];exact⟨(hf k m).1,λ h0=>absurd h0 h⟩
  . rw [if_neg h];have h1:=X58 hf ks (f k m).2;have h2:=hf k m;exact⟨Nat.le_trans h2.1 h1.1,λ h0 hm=>h1.2 h0 (h2.2 (by simpa using h) hm)⟩
theorem Qe1:∀ (n:Nat) (r:Rx) (deep:Int) (m:Nat),m<=(chk n r deep m).2/\((chk n r deep m).1=0->m<=80->(chk n r deep m).2<=80)
 |0,r,deep,m=>⟨Nat.le_refl _,λ _ h=>h⟩
 |n+1,r,deep,m=>by
  unfold chk;by_cases h1:80<m+1
  . rw [if_pos h1];exact⟨by simp,λ h=>absurd h (by simp)⟩
  . rw [if_neg h1];by_cases h2:20<deep
    . rw [if_pos h2];exact⟨by simp,λ h=>absurd h (by simp)⟩
    . rw [if_neg h2];by_cases h3:okR r=false
      . rw [if_pos h3];exact⟨by simp,λ h=>absurd h (by simp)⟩
      . rw [if_neg h3];have h4:=X58 (λ k m=>Qe1 n k (deep+1) m) r.ks (m+1);exact⟨by omega,λ h hm=>h4.2 h (by omega)⟩
theorem QD2 {n:Nat} {r:Rx} {deep:Int} {m:Nat} (h:80<m+1):chk (n+1) r deep m=(2,m+1):=by rw [chk,if_pos h]
theorem XU7 {n:Nat} {r:Rx} {deep:Int} {m:Nat} (h:¬80<m+1) (h2:20<deep):chk (n+1) r deep m=(11,m+1):=by rw [chk,if_neg h,if_pos h2]
theorem JT6 {n:Nat} {r:Rx} {deep:Int} {m:Nat} (h:¬80<m+1) (h2:¬20<deep) (h3:okR r=false):chk (n+1) r deep m=(1,m+1):=by rw [chk,if_neg h,if_neg h2,if_pos h3]
theorem jo5 {n:Nat} {r:Rx} {deep:Int} {m:Nat} (h:¬80<m+1) (h2:¬20<deep) (h3:okR r=true):chk (n+1) r deep m=xy6 (λ k m=>chk n k (deep+1) m) (r.ks.drop 0) (m+1):=by
 rw [chk,if_neg h,if_neg h2,if_neg (by rw [h3];simp),List.drop_zero]
theorem XP9 {f:Rx->Nat->Int×Nat} {ks:List Rx} {i m:Nat} (h:ks.length<=i):xy6 f (ks.drop i) m=(0,m):=by rw [List.drop_of_length_le h];rfl
theorem z44 {f:Rx->Nat->Int×Nat} {ks:List Rx} {i m:Nat} {x:Rx} {e:Int} {m':Nat} (h:ks[i]? =some x) (hf:f x m=(e,m')) (he:e≠0):xy6 f (ks.drop i) m=(e,m'):=by
 obtain⟨hi,rfl⟩:=List.getElem?_eq_some_iff.1 h;rw [List.drop_eq_getElem_cons hi,xy6,hf,if_pos he]
theorem kA7 {f:Rx->Nat->Int×Nat} {ks:List Rx} {i m:Nat} {x:Rx} {m':Nat} (h:ks[i]? =some x) (hf:f x m=(0,m')):xy6 f (ks.drop i) m=xy6 f (ks.drop (i+1)) m':=by
 obtain⟨hi,rfl⟩:=List.getElem?_eq_some_iff.1 h;rw [List.drop_eq_getElem_cons hi,xy6,hf,if_neg (by simp)]
inductive Re where
 |none|empty|byte (s:Q4)|cat (a b:Re)|alt (a b:Re)|star (a:Re)|beg|fin
def Re.set:Re->Q4
 | .byte s=>s
 |_=>⟨0,0,0,0⟩
def Re.kids:Re->List Re
 | .cat a b=> [a,b]
 | .alt a b=> [a,b]
 | .star a=> [a]
 |_=> []
def Re.size:Re->Nat
 | .cat a b=>a.size+b.size+1
 | .alt a b=>a.size+b.size+1
 | .star a=>a.size+1
 |_=>1
def Re.deep:Re->Nat
 | .cat a b=>max a.deep b.deep+1
 | .alt a b=>max a.deep b.deep+1
 | .star a=>a.deep+1
 |_=>1
def Re.right:Re->Prop
 | .byte s=>s.zero=false
 | .cat a b=>a.right/\b.right
 | .alt a b=>a.right/\b.right
 | .star a=>a.right
 |_=>True
def At6 (w:World) (B:Nat) (A:Option Addr) (i:Nat) (cs:List Value):Prop:=∃ ad,A=some ad/\ad.block<B/\∀ j u,cs[j]? =some u->w.cell? (ad.add (i*6+j))=some u
def ReC (w:World) (B:Nat):Re->List Value->Prop
 | .none,cs=>∃ A cap,cs=ZF1 1 ⟨0,0,0,0⟩ A 0 cap
 | .empty,cs=>∃ A cap,cs=ZF1 2 ⟨0,0,0,0⟩ A 0 cap
 | .byte s,cs=>s.ok/\s.zero=false/\∃ A cap,cs=ZF1 3 s A 0 cap
 | .cat a b,cs=>∃ A cap ca cb,cs=ZF1 4 ⟨0,0,0,0⟩ A 2 cap/\2<=cap/\cap<=9223372036854775807/\At6 w B A 0 ca/\At6 w B A 1 cb/\ReC w B a ca/\ReC w B b cb
 | .alt a b,cs=>∃ A cap ca cb,cs=ZF1 5 ⟨0,0,0,0⟩ A 2 cap/\2<=cap/\cap<=9223372036854775807/\At6 w B A 0 ca/\At6 w B A 1 cb/\ReC w B a ca/\ReC w B b cb
 | .star a,cs=>∃ A cap ca,cs=ZF1 6 ⟨0,0,0,0⟩ A 1 cap/\1<=cap/\cap<=9223372036854775807/\At6 w B A 0 ca/\ReC w B a ca
 | .beg,cs=>∃ A cap,cs=ZF1 7 ⟨0,0,0,0⟩ A 0 cap
 | .fin,cs=>∃ A cap,cs=ZF1 8 ⟨0,0,0,0⟩ A 0 cap
theorem At6.keep {w w':World} {B i:Nat} {A:Option Addr} {cs:List Value} (hk:∀ p:Addr,p.block<B->w'.cell? p=w.cell? p) (h:At6 w B A i cs):At6 w' B A i cs:=by
 obtain⟨ad,e,hb,hc⟩:=h;exact⟨ad,e,hb,λ j u hu=>(hk _ (by rw [ZE9];exact hb)).trans (hc j u hu)⟩
theorem ReC.keep {w w':World} {B:Nat} (hk:∀ p:Addr,p.block<B->w'.cell? p=w.cell? p):∀ {q:Re} {cs:List Value},ReC w B q cs->ReC w' B q cs
 | .none,_,h=>h
 | .empty,_,h=>h
 | .byte _,_,h=>h
 | .beg,_,h=>h
 | .fin,_,h=>h
 | .cat a b,_,⟨A,cap,ca,cb,h1,h2,h3,h4,h5,h6,h7⟩=>⟨A,cap,ca,cb,h1,h2,h3,h4.keep hk,h5.keep hk,ReC.keep hk h6,ReC.keep hk h7⟩
 | .alt a b,_,⟨A,cap,ca,cb,h1,h2,h3,h4,h5,h6,h7⟩=>⟨A,cap,ca,cb,h1,h2,h3,h4.keep hk,h5.keep hk,ReC.keep hk h6,ReC.keep hk h7⟩
 | .star a,_,⟨A,cap,ca,h1,h2,h3,h4,h5⟩=>⟨A,cap,ca,h1,h2,h3,h4.keep hk,ReC.keep hk h5⟩
theorem ReC.below {w w':World} {B:Nat} {q:Re} {cs:List Value} (h:ReC w B q cs) (hb:Below B w w'):ReC w' B q cs:=h.keep λ _ hp=>hb.cell hp
theorem ReC.alloc {w:World} {B:Nat} {q:Re} {cs:List Value} (h:ReC w B q cs) (hB:B<=w.heap.size) (o:Obj):ReC (w.alloc o) B q cs:=h.keep λ p hp=>World.cell?_alloc_lt w o p (by omega)
theorem ReC.drew {w:World} {B:Nat} {q:Re} {cs:List Value} (h:ReC w B q cs):ReC w.drew B q cs:=ReC.keep (w:=w) (w':=w.drew) (λ _ _=>rfl) h
theorem je3 {n:Nat} {r:Rx} {deep:Int} {m:Nat} (h:(chk (n+1) r deep m).1=0):m+1<=80/\deep<=20/\okR r=true/\chk (n+1) r deep m=xy6 (λ k m=>chk n k (deep+1) m) r.ks (m+1):=by
 rw [chk] at h⊢;by_cases h1:80<m+1
 . rw [if_pos h1] at h;cases h
 . rw [if_neg h1] at h⊢;by_cases h2:20<deep
   . rw [if_pos h2] at h;cases h
   . rw [if_neg h2] at h⊢;by_cases h3:okR r=false
     . rw [if_pos h3] at h;cases h
     . rw [if_neg h3] at h⊢;exact⟨by omega,by omega,by simpa using h3,rfl⟩
theorem yR6 {f:Rx->Nat->Int×Nat} {k:Rx} {ks:List Rx} {m:Nat} (h:(xy6 f (k::ks) m).1=0):(f k m).1=0/\xy6 f (k::ks) m=xy6 f ks (f k m).2:=by
 rw [xy6] at h⊢;by_cases h1:(f k m).1≠0
 . rw [if_pos h1] at h;exact absurd h h1
 . rw [if_neg h1] at h⊢;exact⟨by simpa using h1,rfl⟩
theorem qO7 {k:Int} (h:Z72 k=0):k=1\/k=2\/k=3\/k=7\/k=8:=by
 unfold Z72 at h;by_cases a:k=4\/k=5
 . rw [if_pos a] at h;omega
 . rw [if_neg a] at h;by_cases b:k=6
   . rw [if_pos b] at h;omega
   . rw [if_neg b] at h;by_cases c:k=1\/k=2\/k=3\/k=7\/k=8
     . exact c
     . rw [if_neg c] at h;omega
theorem yl1 {k:Int} (h:Z72 k=1):k=6:=by
 unfold Z72 at h;by_cases a:k=4\/k=5
 . rw [if_pos a] at h;omega
 . rw [if_neg a] at h;by_cases b:k=6
   . exact b
   . rw [if_neg b] at h;by_cases c:k=1\/k=2\/k=3\/k=7\/k=8
     . rw [if_pos c] at h;omega
     . rw [if_neg c] at h;omega
theorem zZ5 {k:Int} (h:Z72 k=2):k=4\/k=5:=by
 unfold Z72 at h;by_cases a:k=4\/k=5
 . exact a
 . rw [if_neg a] at h;by_cases b:k=6
   . rw [if_pos b] at h;omega
   . rw [if_neg b] at h;by_cases c:k=1\/k=2\/k=3\/k=7\/k=8
     . rw [if_pos c] at h;omega
     . rw [if_neg c] at h;omega
theorem KE6 (k:Int):Z72 k<3:=by
 unfold Z72;by_cases a:k=4\/k=5
 . rw [if_pos a];omega
 . rw [if_neg a];by_cases b:k=6
   . rw [if_pos b];omega
   . rw [if_neg b];by_cases c:k=1\/k=2\/k=3\/k=7\/k=8
     . rw [if_pos c];omega
     . rw [if_neg c];omega
theorem JD0 {w:World} {B:Nat}:∀ (n:Nat) (r:Rx) (cs:List Value) (deep:Int) (m:Nat),RxC w B n r cs->(chk n r deep m).1=0->m<=80->
 ∃ q:Re,ReC w B q cs/\q.right/\(chk n r deep m).2=m+q.size/\m+q.size<=80/\deep+q.deep<=21
 |0,_,_,_,_,h,_,_=>h.elim
 |n+1,.mk k s ks,cs,deep,m,⟨hs,hk,A,cap,e,h4,h5,h6,h7⟩,h0,hm=>by
  obtain⟨h1,h2,h3,h8⟩:=je3 h0;rw [h8] at h0⊢;simp only [Rx.k,Rx.s,Rx.ks] at*;subst e;simp only [okR,Rx.k,Rx.s,Rx.ks,Bool.and_eq_true,beq_iff_eq] at h3;obtain⟨hw,hz⟩:=h3
  have hno:∀ k':Int,k=k'->k'≠3->s=⟨0,0,0,0⟩:=by
   intro k' e he;subst e;rw [beq_eq_false_iff_ne.2 he] at hz;exact K65 (by simpa using hz.symm)
  rcases ks with _|⟨x,_|⟨y,_|⟨z,l⟩⟩⟩
  . have hk':k=1\/k=2\/k=3\/k=7\/k=8:=qO7 (by simpa using hw);simp only [xy6];rcases hk' with rfl|rfl|rfl|rfl|rfl
    . obtain rfl:=hno 1 rfl (by decide);exact⟨.none,⟨A,cap,rfl⟩,trivial,rfl,by simpa [Re.size] using h1,by simp [Re.deep];omega⟩
    . obtain rfl:=hno 2 rfl (by decide);exact⟨.empty,⟨A,cap,rfl⟩,trivial,rfl,by simpa [Re.size] using h1,by simp [Re.deep];omega⟩
    . have hz':s.zero=false:=(by simpa using hz);exact⟨.byte s,⟨hs,hz',A,cap,rfl⟩,hz',rfl,by simpa [Re.size] using h1,by simp [Re.deep];omega⟩
    . obtain rfl:=hno 7 rfl (by decide);exact⟨.beg,⟨A,cap,rfl⟩,trivial,rfl,by simpa [Re.size] using h1,by simp [Re.deep];omega⟩
    . obtain rfl:=hno 8 rfl (by decide);exact⟨.fin,⟨A,cap,rfl⟩,trivial,rfl,by simpa [Re.size] using h1,by simp [Re.deep];omega⟩
  . have hk':k=6:=yl1 (by simpa using hw);subst hk';obtain rfl:=hno 6 rfl (by decide);obtain⟨ad,ca,rfl,hc,hr⟩:=h7 0 x rfl;obtain⟨_,e',hb⟩:=h6 (by simp);injection e' with e';subst e';obtain⟨k0,k1⟩:=yR6 h0;rw [k1] at h0⊢;obtain⟨q,q1,q2,q3,q4,q5⟩:=JD0 n x ca (deep+1) (m+1) hr k0 h1;refine⟨.star q,⟨_,cap,ca,rfl,h4,h5,⟨ad,rfl,hb,hc⟩,q1⟩,q2,?_,?_,?_⟩
    . simp only [xy6,Re.size];rw [q3];omega
    . simp only [Re.size];omega
    . simp only [Re.deep];omega
  . have hk':k=4\/k=5:=zZ5 (by simpa using hw);obtain⟨ad,ca,rfl,hc,hr⟩:=h7 0 x rfl;obtain⟨_,e',hb⟩:=h6 (by simp);injection e' with e';subst e';obtain⟨_,cb,e',hc2,hr2⟩:=h7 1 y rfl;injection e' with e';subst e';obtain⟨k0,k1⟩:=yR6 h0;rw [k1] at h0⊢;obtain⟨q,q1,q2,q3,q4,q5⟩:=JD0 n x ca (deep+1) (m+1) hr k0 h1;obtain⟨k2,k3⟩:=yR6 h0;rw [k3] at h0⊢;simp only [q3] at k2 h0⊢;obtain⟨p,p1,p2,p3,p4,p5⟩:=JD0 n y cb (deep+1) (m+1+q.size) hr2 k2 q4;rcases hk' with rfl|rfl
    . obtain rfl:=hno 4 rfl (by decide);refine⟨.cat q p,⟨_,cap,ca,cb,rfl,h4,h5,⟨ad,rfl,hb,hc⟩,⟨ad,rfl,hb,hc2⟩,q1,p1⟩,⟨q2,p2⟩,?_,?_,?_⟩
      . simp only [xy6,Re.size];rw [p3];omega
      . simp only [Re.size];omega
      . simp only [Re.deep];omega
    . obtain rfl:=hno 5 rfl (by decide);refine⟨.alt q p,⟨_,cap,ca,cb,rfl,h4,h5,⟨ad,rfl,hb,hc⟩,⟨ad,rfl,hb,hc2⟩,q1,p1⟩,⟨q2,p2⟩,?_,?_,?_⟩
      . simp only [xy6,Re.size];rw [p3];omega
      . simp only [Re.size];omega
      . simp only [Re.deep];omega
  . exfalso
    have:=KE6 k;simp at hw;omega
theorem len6 {α:Type} {l:List α} (h:l.length=6):∃ a b c d e f,l= [a,b,c,d,e,f]:=by
 match l,h with
 | [a,b,c,d,e,f],_=>exact⟨a,b,c,d,e,f,rfl⟩
end
end Go.Proofs.YtngepacmgabmaaaGreatDoor
