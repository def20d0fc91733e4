/- Within (wickref.within); Walk: wickref.oneRule, given what wickre .. -/
import Derived.Test.YtngepacmgabmaaaGreatDoorGj
namespace Go.Proofs.YtngepacmgabmaaaGreatDoor
open Go.RowKit
set_option linter.unusedVariables false
set_option linter.unusedSimpArgs false
def inB (n lo hi:Int):Bool:=decide (lo<=n/\n<=hi)
theorem Xe9 {n lo hi:Int} (h:lo<=n/\n<=hi):inB n lo hi=true:=decide_eq_true h
theorem jc6 {n lo hi:Int} (h:¬(lo<=n/\n<=hi)):inB n lo hi=false:=decide_eq_false h
theorem Zm6 {n lo hi:Int}:inB n lo hi=true<->lo<=n/\n<=hi:=by unfold inB;exact decide_eq_true_iff
theorem zD9 (n lo hi:Int) (w:World):
 Calls Tryz.prog 25 #[.int .i64 n,.int .i64 lo,.int .i64 hi] w λ e w'=>e= .returned (.bool (inB n lo hi))/\w=w':=by
 by_cases h1:lo<=n
 . by_cases h2:n<=hi
   focus
    have HB:=qh (Xe9 ⟨h1,h2⟩)
   rotate_left
   focus
    have HB:=qh (jc6 (n:=n) (lo:=lo) (hi:=hi) (λ h=>h2 h.2));have h3:decide (n<=hi)=false:=decide_eq_false h2
   all_goals
    go_enter Tryz.func25,Tryz.ntmps25
    go_wp2
    go_ret;exact⟨by rw [HB.out];rfl,rfl⟩
 . have HB:=qh (jc6 (n:=n) (lo:=lo) (hi:=hi) (λ h=>h1 h.1));have h3:decide (lo<=n)=false:=decide_eq_false h1;go_enter Tryz.func25,Tryz.ntmps25
   go_wp2
   go_ret;exact⟨by rw [HB.out];rfl,rfl⟩
theorem Xt9 (b:UInt8):yk4 (b.toNat:Int) (ByteArray.mk #[97,98,99,100,101,102,103,104,105,106,107,108,109,110,111,112,113,114,115,116,117,118,119,120,121,122,48,49,50,51,52,53,54,55,56,57,45,95]).data.toList=nmB b:=by
 have h:∀ n:Fin 256,yk4 ((UInt8.ofNat n.val).toNat:Int) (ByteArray.mk #[97,98,99,100,101,102,103,104,105,106,107,108,109,110,111,112,113,114,115,116,117,118,119,120,121,122,48,49,50,51,52,53,54,55,56,57,45,95]).data.toList=nmB (UInt8.ofNat n.val):=by decide+kernel
 have:=h ⟨b.toNat,b.toNat_lt⟩;rw [UInt8.ofNat_toNat] at this;exact this
theorem in_nm (b:UInt8) (w:World):Calls Tryz.prog 55 #[.int .u8 (b.toNat:Int),.string ⟨#[97,98,99,100,101,102,103,104,105,106,107,108,109,110,111,112,113,114,115,116,117,118,119,120,121,122,48,49,50,51,52,53,54,55,56,57,45,95]⟩] w λ e w'=>e= .returned (.bool (nmB b))/\w=w':=
 X74 _ _ _ (Xt9 b) w (by decide) (by omega) (by have:=b.toNat_lt;omega)
def nmK (s:ByteArray) (k:Nat):Bool:=(s.data.toList.take k).all nmB
theorem J80 {s:ByteArray} {k:Nat} (hk:k<s.size):nmK s (k+1)=(nmK s k&&nmB s[k]):=by
 unfold nmK;have hl:k<s.data.toList.length:=by rw [qX6];exact hk
 rw [List.take_succ_eq_append_getElem hl,List.all_append,Kb1 s k hk];simp
theorem ZH3 (s:ByteArray):nmK s s.size=s.data.toList.all nmB:=by
 unfold nmK;rw [jS5 s (Nat.le_refl _)]
def zB8 (v:Vr):Bool:=inB v.k 1 12&&inB v.m 0 2
def xD1 (v:Vr):Bool:=zB8 v&&ofK v.k&&decide (v.n.size<=20)
theorem Jk5 {v:Vr} (h:v.n.size=0):okV v=zB8 v:=by unfold okV zB8 inB;rw [dT h];simp
theorem QH3 {v:Vr} (h:¬v.n.size=0):okV v=(xD1 v&&nmK v.n v.n.size):=by
 have h1:decide (1<=v.n.size)=true:=dT (by omega);unfold okV xD1 zB8 inB nmS;rw [dF h,ZH3,h1];cases decide (1<=v.k/\v.k<=12)<;>cases decide (0<=v.m/\v.m<=2)<;>cases ofK v.k<;>cases v.n.data.toList.all nmB<;>cases decide (v.n.size<=20)<;>rfl
def loX (k:Int):Int:=if k=2 then 400 else if k=3 then 1 else if k=4 then 1 else 0
def hiX (k:Int):Int:=if k=2 then 599 else if k=3 then 1000 else if k=4 then 9 else 0
theorem YS6 (x:Int×Int):okX x=(inB x.1 1 5&&inB x.2 (loX x.1) (hiX x.1)):=by
 obtain⟨k,n⟩:=x;have hk:k=1\/k=2\/k=3\/k=4\/k=5\/(k≠1/\k≠2/\k≠3/\k≠4/\k≠5):=by omega
 have e0:∀ n:Int,decide (0<=n/\n<=0)=(n==0):=λ n=>by rw [Bool.eq_iff_iff,decide_eq_true_eq,beq_iff_eq];omega
 rcases hk with rfl|rfl|rfl|rfl|rfl|⟨h1,h2,h3,h4,h5⟩
 . simp [okX,inB,loX,hiX,e0]
 . simp [okX,inB,loX,hiX]
 . simp [okX,inB,loX,hiX]
 . simp [okX,inB,loX,hiX]
 . simp [okX,inB,loX,hiX,e0]
 . have:inB k 1 5=false:=jc6 (by omega);rw [this];simp [okX,h1,h2,h3,h4,h5]
theorem Y35 {vs:List Vr} {k:Nat} (hk:k<vs.length) (h:okV vs[k]=false):¬vs.all okV=true:=λ e=>by
 rw [List.all_eq_true] at e;have:=e _ (List.getElem_mem hk);rw [h] at this;cases this
theorem ZV5 {xs:List (Int×Int)} {k:Nat} (hk:k<xs.length) (h:okX xs[k]=false):¬xs.all okX=true:=λ e=>by
 rw [List.all_eq_true] at e;have:=e _ (List.getElem_mem hk);rw [h] at this;cases this
section
variable (AE:Int->ByteArray->Int) (r:Ru) (B:Nat) (w:World)
set_option maxRecDepth 100000 in
set_option maxHeartbeats 8000000 in
theorem Qf3 (h:RuM w B r) (hB:B<=w.heap.size) (hA:ArgOk 57 AE w):
 Calls Tryz.prog 26 #[.agg (Zn7 r).toArray] w λ e w'=>e= .returned (.int .i64 (x79 AE r))/\Below w.heap.size w w':=by
 have hvl:=h.vs.2.1;have hvc:=h.vs.2.2.1;obtain⟨hzl,hzc⟩:=h.zl;obtain⟨hxl,hxc⟩:=h.xl;have hag:=h.ag;obtain⟨id,ph,vs,zs,no,op,arg,xs,ch,VA,vc,ZA,zc,XA,xc⟩:=r;obtain⟨R,hR⟩:∃ R,R=x79 AE ⟨id,ph,vs,zs,no,op,arg,xs,ch,VA,vc,ZA,zc,XA,xc⟩:=⟨_,rfl⟩;rw [<-hR];unfold x79 at hR;dsimp only at hR hvl hvc hzl hzc hxl hxc hag;have H1:=qh h.vs;have H2:=qh h.zs;have H3:=qh h.xs;dsimp only at H1 H2 H3;have HA:=qh hA;clear h hA;dsimp only [Zn7];have hba:∀ o:Obj,Below w.heap.size w (w.alloc o):=λ o=>(Below.refl _ _).alloc (Nat.le_refl _) _
 have HBA:=qh hba;clear hba;by_cases g1:8<vs.length\/6<xs.length
 . have HR:Hid (R=2):=qh (by rw [hR,if_pos g1]);clear hR;have hc:(8:Int)<(vs.length:Int)\/(¬(8:Int)<(vs.length:Int)/\(6:Int)<(xs.length:Int)):=(by omega);clear g1;rcases hc with c1|⟨c1,c2⟩
   all_goals
    go_enter Tryz.func26,Tryz.ntmps26;go_wp2_with fail;go_ret;exact⟨by rw [HR.out];rfl,HBA.out _⟩
 rw [if_neg g1] at hR;have n1:¬(8:Int)<(vs.length:Int):=by omega
 have n2:¬(6:Int)<(xs.length:Int):=by omega
 have hv8:vs.length<=8:=by omega
 have hx6:xs.length<=6:=by omega
 clear g1;by_cases g2:vs.length=0\/xs.length=0
 . have HR:Hid (R=1):=qh (by rw [hR,if_pos g2]);clear hR
   have hc:((vs.length:Int)==0)=true\/(((vs.length:Int)==0)=false/\((xs.length:Int)==0)=true):=by
    by_cases c:vs.length=0
    . exact .inl (beq_iff_eq.2 (by omega))
    . exact .inr ⟨beq_eq_false_iff_ne.2 (by omega),beq_iff_eq.2 (by omega)⟩
   clear g2;rcases hc with c1|⟨c1,c2⟩
   all_goals
    go_enter Tryz.func26,Tryz.ntmps26;go_wp2_with fail;go_ret;exact⟨by rw [HR.out];rfl,HBA.out _⟩
 rw [if_neg g2] at hR;have n3:((vs.length:Int)==0)=false:=beq_eq_false_iff_ne.2 (by omega);have n4:((xs.length:Int)==0)=false:=beq_eq_false_iff_ne.2 (by omega);clear g2;have HRI:=qh hR;clear hR;go_enter Tryz.func26,Tryz.ntmps26;go_wp2_with fail;obtain⟨W0,hW0⟩:∃ W0,w.alloc (.cells #[.int .i64 id,.int .i64 ph,.slice VA vs.length vc,.slice ZA zs.length zc,.bool no,.int .i64 op,.string arg,.slice XA xs.length xc,.bool ch] 44)=W0:=⟨_,rfl⟩;have hk0:Blk W0 w.heap.size 44 #[.int .i64 id,.int .i64 ph,.slice VA vs.length vc,.slice ZA zs.length zc,.bool no,.int .i64 op,.string arg,.slice XA xs.length xc,.bool ch]:=by rw [<-hW0];exact Blk.new _ _ _
 have HB0:Hid (Below w.heap.size w W0):=qh (by rw [<-hW0];exact HBA.out _);rw [hW0];have HK0:=qh hk0;have hlt0:w.heap.size<W0.heap.size:=Blk.lt hk0;clear hW0 hk0 HBA;go_loopw [3] (λ u wr=>∃ k:Nat,u= .int .i64 (k:Int)/\k<=vs.length/\Hid (∀ j (hj:j<vs.length),j<k->okV vs[j]=true)/\Hid (Below W0.heap.size W0 wr)) (λ u _=>vs.length-(intOf u).toNat)
 case atStart=>exact⟨0,rfl,Nat.zero_le _,qh λ j hj h=>absurd h (Nat.not_lt_zero _),qh (Below.refl _ _)⟩
 case round=>
  obtain⟨k,rfl,hk,HV,HB⟩:=hrel;have hkr:=HK0.out.below HB.out hlt0;have x2:=Blk.e2 hkr;have hltr:w.heap.size<wr.heap.size:=Nat.lt_of_lt_of_le hlt0 HB.out.size;have HBw:Hid (Below w.heap.size w wr):=qh (HB0.out.trans (HB.out.mono (Nat.le_of_lt hlt0)));by_cases hlk:k<vs.length
  . have k1:(k:Int)<(vs.length:Int):=(by omega);have k0:(0:Int)<=(k:Int):=(by omega);have kw:IntKind.i64.wrap ((k:Int)+1)=(k:Int)+1:=IntWalk.i64_in _ (by omega);obtain⟨ad,rfl,hab,z0,z1,z2,hz⟩:=(H1.out.below (HBw.out.mono hB)).cells hlk;have hbw:ad.block<wr.heap.size:=Nat.lt_of_lt_of_le hab (Nat.le_trans hB HBw.out.size);obtain⟨v,hv⟩:∃ v,v=vs[k]:=⟨_,rfl⟩;rw [<-hv] at z0 z1 z2 hz;have HVV:=qh hv;clear hv hkr;go_upto_region 9 with fail;obtain⟨W1,hW1⟩:∃ W1,wr.alloc (.cells #[.int .i64 v.k,.int .i64 v.m,.string v.n] 51)=W1:=⟨_,rfl⟩;have hk1:Blk W1 wr.heap.size 51 #[.int .i64 v.k,.int .i64 v.m,.string v.n]:=(by rw [<-hW1];exact Blk.new _ _ _);have HB1:Hid (Below W0.heap.size W0 W1):=qh (by rw [<-hW1];exact HB.out.alloc HB.out.size _);obtain⟨y0,y1,y2⟩:=Blk.c3 hk1;have x21:=Blk.e2 (HK0.out.below HB1.out hlt0);rw [hW1];have HK1:=qh hk1;clear hW1 hk1 z0 z1 z2 x2;go_cut [5] from 45 to 52 (λ u wx=>u= .bool (zB8 v)/\wx=W1)
    case first=>
     cases q1:inB v.k 1 12
     focus
      have e:Hid (zB8 v=false):=qh (by unfold zB8;rw [q1];rfl)
     rotate_left
     focus
      have e:Hid (zB8 v=inB v.m 0 2):=qh (by unfold zB8;rw [q1];rfl)
     all_goals
      go_wp2_with (first|(go_at_call 25;refine(zD9 _ _ _ _).mono ?_;rintro e w' ⟨rfl,rfl⟩)|fail);go_meet;exact⟨by rw [e.out],rfl⟩
    case rest=>
     obtain⟨rfl,rfl⟩:=hcut;clear x21;by_cases h0:v.n.size=0
     . have hE:v.n.toList.isEmpty=true:=(by rw [isE];exact dT h0);have he:=Jk5 h0;clear h0;cases q:zB8 v with
       |true=>
        have HV2:Hid (∀ j (hj:j<vs.length),j<k+1->okV vs[j]=true):=qh λ j hj h=>by
         by_cases e:j=k
         . subst e;rw [<-HVV.out,he];exact q
         . exact HV.out j hj (by omega)
        clear he q;go_wp2_with fail;go_roundw
        case rel=>exact⟨k+1,by go_num,by omega,HV2,HB1⟩
        case measure=>simp [intOf];omega
       |false=>
        have HR:Hid (R=1):=qh (by rw [HRI.out,if_pos (Y35 hlk (by rw [<-HVV.out,he];exact q))]);clear he q;go_wp2_with fail;go_ret;exact⟨by rw [HR.out];rfl,HB0.out.trans (HB1.out.mono (Nat.le_of_lt hlt0))⟩
     . have hE:v.n.toList.isEmpty=false:=(by rw [isE];exact dF h0);have he:=QH3 h0;have HE:=qh he;clear he h0;go_upto_if 55 with fail;go_cut [5,6] from 56 to 92 (λ u _ wx=>u= .bool (okV v)/\wx=wc)
       case first=>
        go_upto_region 11 with fail;go_cut [5] from 56 to 77 (λ u wx=>u= .bool (xD1 v)/\wx=wc)
        case first=>
         have e20:decide (v.n.size<=20)=decide ((v.n.size:Int)<=20):=(by rw [decide_eq_decide];omega);cases q0:zB8 v with
         |false=>
          have e:Hid (xD1 v=false):=qh (by unfold xD1;rw [q0];rfl);go_wp2_with fail;go_meet;exact⟨by rw [e.out],rfl⟩
         |true=>
          have hk3:v.k=6\/v.k=8\/v.k=10\/(v.k≠6/\v.k≠8/\v.k≠10):=(by omega);rcases hk3 with h|h|h|⟨h1,h2,h3⟩
          focus
           have e:Hid (xD1 v=decide ((v.n.size:Int)<=20)):=qh (by unfold xD1;rw [q0,e20,h];rfl);have f1:(v.k==6)=true:=beq_iff_eq.2 h;clear h e20
          rotate_left
          focus
           have e:Hid (xD1 v=decide ((v.n.size:Int)<=20)):=qh (by unfold xD1;rw [q0,e20,h];rfl);have f1:(v.k==6)=false:=beq_eq_false_iff_ne.2 (by omega);have f2:(v.k==8)=true:=beq_iff_eq.2 h;clear h e20
          rotate_left
          focus
           have e:Hid (xD1 v=decide ((v.n.size:Int)<=20)):=qh (by unfold xD1;rw [q0,e20,h];rfl);have f1:(v.k==6)=false:=beq_eq_false_iff_ne.2 (by omega);have f2:(v.k==8)=false:=beq_eq_false_iff_ne.2 (by omega);have f3:(v.k==10)=true:=beq_iff_eq.2 h;clear h e20
          rotate_left
          focus
           have f1:(v.k==6)=false:=beq_eq_false_iff_ne.2 h1;have f2:(v.k==8)=false:=beq_eq_false_iff_ne.2 h2;have f3:(v.k==10)=false:=beq_eq_false_iff_ne.2 h3;have e:Hid (xD1 v=false):=qh (by unfold xD1 ofK;rw [q0,f1,f2,f3];rfl);clear h1 h2 h3 e20
          all_goals
           go_wp2_with fail;go_meet;exact⟨by rw [e.out],rfl⟩
        case rest=>
         obtain⟨rfl,rfl⟩:=hcut;go_wp2_with fail;go_loop [5,6] (λ u c=>∃ j:Nat,c= .int .i64 (j:Int)/\j<=v.n.size/\u= .bool (xD1 v&&nmK v.n j)) (λ _ c=>v.n.size-(intOf c).toNat)
         case atStart=>exact⟨0,rfl,Nat.zero_le _,by rw [show nmK v.n 0=true from rfl,Bool.and_true]⟩
         case round=>
          obtain⟨j,rfl,hj,rfl⟩:=hrel;by_cases hjl:j<v.n.size
          . have j1:(j:Int)<(v.n.size:Int):=(by omega);have j0:(0:Int)<=(j:Int):=(by omega);have jw:IntKind.i64.wrap ((j:Int)+1)=(j:Int)+1:=IntWalk.i64_in _ (by omega);have HN:=qh (J80 hjl);obtain⟨q,hq⟩:∃ q,xD1 v=q:=⟨_,rfl⟩;obtain⟨q2,hq2⟩:∃ q2,nmK v.n j=q2:=⟨_,rfl⟩;rw [hq,hq2];have HQ:=qh hq;have HQ2:=qh hq2;clear hq hq2;cases q<;>cases q2
            all_goals
             go_wp2_with (first|(go_at_call 55;refine(in_nm _ _).mono ?_;rintro e w' ⟨rfl,rfl⟩)|fail);go_round
             case rel=>exact⟨j+1,by go_num,by omega,by rw [HN.out,HQ2.out];rfl⟩
             case measure=>simp [intOf];omega
          . obtain rfl:j=v.n.size:=(by omega);have HE2:=qh (HE.out.symm);rw [HE2.out];go_wp2_with fail;go_meet;exact⟨rfl,rfl⟩
       case rest=>
        obtain⟨rfl,rfl⟩:=hcut;cases q:okV v with
        |true=>
         have HV2:Hid (∀ j (hj:j<vs.length),j<k+1->okV vs[j]=true):=qh λ j hj h=>by
          by_cases e:j=k
          . subst e;rw [<-HVV.out];exact q
          . exact HV.out j hj (by omega)
         clear q;go_wp2_with fail;go_roundw
         case rel=>exact⟨k+1,by go_num,by omega,HV2,HB1⟩
         case measure=>simp [intOf];omega
        |false=>
         have HR:Hid (R=1):=qh (by rw [HRI.out,if_pos (Y35 hlk (by rw [<-HVV.out];exact q))]);clear q;go_wp2_with fail;go_ret;exact⟨by rw [HR.out];rfl,HB0.out.trans (HB1.out.mono (Nat.le_of_lt hlt0))⟩
  . obtain rfl:k=vs.length:=by omega
    have hva:vs.all okV=true:=by
     rw [List.all_eq_true];intro v hv;obtain⟨i,hi,rfl⟩:=List.mem_iff_getElem.1 hv;exact HV.out i hi hi
    have HRI2:=qh (show R=if ¬yU7 zs=0 then yU7 zs else if op<1\/12<op then 1 else if ¬AE op arg=0 then AE op arg else if xs.all okX=true then 0 else 1 from by rw [HRI.out,if_neg (by simp [hva])]);obtain⟨_,_,_,x3,_,x5,x6⟩:=Blk.c7 hkr;clear hva HV HRI hlk hk hkr;go_wp2_with fail;refine(Jz0 zs ZA zc wr ((H2.out.below (HBw.out.mono hB)).more (Nat.le_trans hB HBw.out.size)) (by omega)).mono ?_;rintro e w2 ⟨rfl,rfl⟩;by_cases g4:yU7 zs=0
    . have hp:(yU7 zs !=0)=false:=(by rw [g4];rfl);have HRI3:=qh (show R=if op<1\/12<op then 1 else if ¬AE op arg=0 then AE op arg else if xs.all okX=true then 0 else 1 from by rw [HRI2.out,if_neg (by simp [g4])]);clear HRI2 g4;cases q:inB op 1 12 with
      |false=>
       have HR:Hid (R=1):=qh (by rw [HRI3.out,if_pos (by have h1:¬(1<=op/\op<=12):=λ h=>Bool.eq_false_iff.1 q (Zm6.2 h);omega)]);go_wp2_with (first|(go_at_call 25;refine(zD9 _ _ _ _).mono ?_;rintro e w' ⟨rfl,rfl⟩)|fail);go_ret;exact⟨by rw [HR.out];rfl,HBw.out⟩
      |true=>
       have g5:=Zm6.1 q;have HRI4:=qh (show R=if ¬AE op arg=0 then AE op arg else if xs.all okX=true then 0 else 1 from by rw [HRI3.out,if_neg (by omega)]);clear HRI3;go_wp2_with (first|(go_at_call 25;refine(zD9 _ _ _ _).mono ?_;rintro e w' ⟨rfl,rfl⟩)|fail);refine(HA.out op arg wr HBw.out hag g5.1 g5.2).mono ?_;rintro e w3 ⟨rfl,b3⟩;have HB3:=qh (HB.out.trans (b3.mono HB.out.size));clear b3 x2 x3 x5 x6 hltr;by_cases g6:AE op arg=0
       . have ha:(AE op arg !=0)=false:=(by rw [g6];rfl);have HRX:Hid (R=if xs.all okX=true then 0 else 1):=qh (by rw [HRI4.out,if_neg (by simp [g6])]);clear HRI4 g6;go_wp2_with fail;go_loopw [9] (λ u wr=>∃ k:Nat,u= .int .i64 (k:Int)/\k<=xs.length/\Hid (∀ j (hj:j<xs.length),j<k->okX xs[j]=true)/\Hid (Below W0.heap.size W0 wr)) (λ u _=>xs.length-(intOf u).toNat)
         case atStart=>exact⟨0,rfl,Nat.zero_le _,qh λ j hj h=>absurd h (Nat.not_lt_zero _),HB3⟩
         case round=>
          clear HB HB3 HBw;obtain⟨k,rfl,hk,HV,HB⟩:=hrel;have x7:=Blk.e7 (HK0.out.below HB.out hlt0);have hltr:w.heap.size<wr.heap.size:=Nat.lt_of_lt_of_le hlt0 HB.out.size;have HBw:Hid (Below w.heap.size w wr):=qh (HB0.out.trans (HB.out.mono (Nat.le_of_lt hlt0)));by_cases hlk:k<xs.length
          . have k1:(k:Int)<(xs.length:Int):=(by omega);have k0:(0:Int)<=(k:Int):=(by omega);have kw:IntKind.i64.wrap ((k:Int)+1)=(k:Int)+1:=IntWalk.i64_in _ (by omega);obtain⟨ad,rfl,hab,z0,z1⟩:=Zk6 (H3.out.below (HBw.out.mono hB)) hlk;have hbw:ad.block<wr.heap.size:=Nat.lt_of_lt_of_le hab (Nat.le_trans hB HBw.out.size);obtain⟨x,hx⟩:∃ x,x=xs[k]:=⟨_,rfl⟩;rw [<-hx] at z0 z1;have HXX:=qh hx;have HBn:Hid (∀ o:Obj,Below W0.heap.size W0 (wr.alloc o)):=qh λ o=>HB.out.alloc HB.out.size _
            clear hx;obtain⟨xa,xn⟩:=x;dsimp only at z0 z1
            have hc:(xa=2/\∃ q2,inB xn 400 599=q2/\okX (xa,xn)=(inB xa 1 5&&q2))\/(xa=3/\∃ q2,inB xn 1 1000=q2/\okX (xa,xn)=(inB xa 1 5&&q2))\/(xa=4/\∃ q2,inB xn 1 9=q2/\okX (xa,xn)=(inB xa 1 5&&q2))\/((xa≠2/\xa≠3/\xa≠4)/\∃ q2,inB xn 0 0=q2/\okX (xa,xn)=(inB xa 1 5&&q2)):=by
             have ho:=YS6 (xa,xn);dsimp only at ho;have hk4:xa=2\/xa=3\/xa=4\/(xa≠2/\xa≠3/\xa≠4):=(by omega);rcases hk4 with h|h|h|h
             . exact .inl ⟨h,_,rfl,by rw [ho,h];rfl⟩
             . exact .inr (.inl ⟨h,_,rfl,by rw [ho,h];rfl⟩)
             . exact .inr (.inr (.inl ⟨h,_,rfl,by rw [ho,h];rfl⟩))
             . have l0:loX xa=0:=(by unfold loX;rw [if_neg h.1,if_neg h.2.1,if_neg h.2.2]);have h0:hiX xa=0:=(by unfold hiX;rw [if_neg h.1,if_neg h.2.1,if_neg h.2.2]);exact .inr (.inr (.inr ⟨h,_,rfl,by rw [ho,l0,h0]⟩))
            rcases hc with⟨h,q2,hq2,hx⟩|⟨h,q2,hq2,hx⟩|⟨h,q2,hq2,hx⟩|⟨⟨h,h3,h4⟩,q2,hq2,hx⟩
            . have e2:(xa==2)=true:=beq_iff_eq.2 h;clear h;have HX:=qh hx;clear hx;cases q1:inB xa 1 5<;>cases q2
              case' false.false=>have HXF:Hid (okX (xa,xn)=false):=qh (by rw [HX.out,q1];rfl)
              case' false.true=>have HXF:Hid (okX (xa,xn)=false):=qh (by rw [HX.out,q1];rfl)
              case' true.false=>have HXF:Hid (okX (xa,xn)=false):=qh (by rw [HX.out,q1];rfl)
              case' true.true=>
               have HXT:Hid (okX (xa,xn)=true):=qh (by rw [HX.out,q1];rfl)
               have HV2:Hid (∀ j (hj:j<xs.length),j<k+1->okX xs[j]=true):=qh λ j hj h=>by
                by_cases e:j=k
                . subst e;rw [<-HXX.out];exact HXT.out
                . exact HV.out j hj (by omega)
               clear HV
              all_goals go_wp2_with (first|(go_at_call 25;refine(zD9 _ _ _ _).mono ?_;rintro e w' ⟨rfl,rfl⟩)|fail)
              case roundEnd=>
               go_roundw
               case rel=>exact⟨k+1,by go_num,by omega,HV2,HBn.out _⟩
               case measure=>simp [intOf];omega
              all_goals
               have HR:Hid (R=1):=qh (by rw [HRX.out,if_neg (ZV5 hlk (by rw [<-HXX.out];exact HXF.out))]);go_ret;exact⟨by rw [HR.out];rfl,HB0.out.trans ((HBn.out _).mono (Nat.le_of_lt hlt0))⟩
            . have e2:(xa==2)=false:=beq_eq_false_iff_ne.2 (by omega);have e3:(xa==3)=true:=beq_iff_eq.2 h;clear h;have HX:=qh hx;clear hx;cases q1:inB xa 1 5<;>cases q2
              case' false.false=>have HXF:Hid (okX (xa,xn)=false):=qh (by rw [HX.out,q1];rfl)
              case' false.true=>have HXF:Hid (okX (xa,xn)=false):=qh (by rw [HX.out,q1];rfl)
              case' true.false=>have HXF:Hid (okX (xa,xn)=false):=qh (by rw [HX.out,q1];rfl)
              case' true.true=>
               have HXT:Hid (okX (xa,xn)=true):=qh (by rw [HX.out,q1];rfl)
               have HV2:Hid (∀ j (hj:j<xs.length),j<k+1->okX xs[j]=true):=qh λ j hj h=>by
                by_cases e:j=k
                . subst e;rw [<-HXX.out];exact HXT.out
                . exact HV.out j hj (by omega)
               clear HV
              all_goals go_wp2_with (first|(go_at_call 25;refine(zD9 _ _ _ _).mono ?_;rintro e w' ⟨rfl,rfl⟩)|fail)
              case roundEnd=>
               go_roundw
               case rel=>exact⟨k+1,by go_num,by omega,HV2,HBn.out _⟩
               case measure=>simp [intOf];omega
              all_goals
               have HR:Hid (R=1):=qh (by rw [HRX.out,if_neg (ZV5 hlk (by rw [<-HXX.out];exact HXF.out))]);go_ret;exact⟨by rw [HR.out];rfl,HB0.out.trans ((HBn.out _).mono (Nat.le_of_lt hlt0))⟩
            . have e2:(xa==2)=false:=beq_eq_false_iff_ne.2 (by omega);have e3:(xa==3)=false:=beq_eq_false_iff_ne.2 (by omega);have e4:(xa==4)=true:=beq_iff_eq.2 h;clear h;have HX:=qh hx;clear hx;cases q1:inB xa 1 5<;>cases q2
              case' false.false=>have HXF:Hid (okX (xa,xn)=false):=qh (by rw [HX.out,q1];rfl)
              case' false.true=>have HXF:Hid (okX (xa,xn)=false):=qh (by rw [HX.out,q1];rfl)
              case' true.false=>have HXF:Hid (okX (xa,xn)=false):=qh (by rw [HX.out,q1];rfl)
              case' true.true=>
               have HXT:Hid (okX (xa,xn)=true):=qh (by rw [HX.out,q1];rfl)
               have HV2:Hid (∀ j (hj:j<xs.length),j<k+1->okX xs[j]=true):=qh λ j hj h=>by
                by_cases e:j=k
                . subst e;rw [<-HXX.out];exact HXT.out
                . exact HV.out j hj (by omega)
               clear HV
              all_goals go_wp2_with (first|(go_at_call 25;refine(zD9 _ _ _ _).mono ?_;rintro e w' ⟨rfl,rfl⟩)|fail)
              case roundEnd=>
               go_roundw
               case rel=>exact⟨k+1,by go_num,by omega,HV2,HBn.out _⟩
               case measure=>simp [intOf];omega
              all_goals
               have HR:Hid (R=1):=qh (by rw [HRX.out,if_neg (ZV5 hlk (by rw [<-HXX.out];exact HXF.out))]);go_ret;exact⟨by rw [HR.out];rfl,HB0.out.trans ((HBn.out _).mono (Nat.le_of_lt hlt0))⟩
            . have e2:(xa==2)=false:=beq_eq_false_iff_ne.2 h;have e3:(xa==3)=false:=beq_eq_false_iff_ne.2 h3;have e4:(xa==4)=false:=beq_eq_false_iff_ne.2 h4;clear h h3 h4;have HX:=qh hx;clear hx;cases q1:inB xa 1 5<;>cases q2
              case' false.false=>have HXF:Hid (okX (xa,xn)=false):=qh (by rw [HX.out,q1];rfl)
              case' false.true=>have HXF:Hid (okX (xa,xn)=false):=qh (by rw [HX.out,q1];rfl)
              case' true.false=>have HXF:Hid (okX (xa,xn)=false):=qh (by rw [HX.out,q1];rfl)
              case' true.true=>
               have HXT:Hid (okX (xa,xn)=true):=qh (by rw [HX.out,q1];rfl)
               have HV2:Hid (∀ j (hj:j<xs.length),j<k+1->okX xs[j]=true):=qh λ j hj h=>by
                by_cases e:j=k
                . subst e;rw [<-HXX.out];exact HXT.out
                . exact HV.out j hj (by omega)
               clear HV
              all_goals go_wp2_with (first|(go_at_call 25;refine(zD9 _ _ _ _).mono ?_;rintro e w' ⟨rfl,rfl⟩)|fail)
              case roundEnd=>
               go_roundw
               case rel=>exact⟨k+1,by go_num,by omega,HV2,HBn.out _⟩
               case measure=>simp [intOf];omega
              all_goals
               have HR:Hid (R=1):=qh (by rw [HRX.out,if_neg (ZV5 hlk (by rw [<-HXX.out];exact HXF.out))]);go_ret;exact⟨by rw [HR.out];rfl,HB0.out.trans ((HBn.out _).mono (Nat.le_of_lt hlt0))⟩
          . obtain rfl:k=xs.length:=by omega
            have hxa:xs.all okX=true:=by
             rw [List.all_eq_true];intro v hv;obtain⟨i,hi,rfl⟩:=List.mem_iff_getElem.1 hv;exact HV.out i hi hi
            have HR:Hid (R=0):=qh (by rw [HRX.out,if_pos hxa]);clear hxa HV;go_wp2_with fail;go_ret;exact⟨by rw [HR.out];rfl,HBw.out⟩
       . have ha:(AE op arg !=0)=true:=bne_iff_ne.2 g6;have HR:Hid (R=AE op arg):=qh (by rw [HRI4.out,if_pos g6]);clear HRI4 g6;go_wp2_with fail;go_ret;exact⟨by rw [HR.out];rfl,HB0.out.trans (HB3.out.mono (Nat.le_of_lt hlt0))⟩
    . have hp:(yU7 zs !=0)=true:=bne_iff_ne.2 g4;have HR:Hid (R=yU7 zs):=qh (by rw [HRI2.out,if_pos g4]);clear HRI2 g4;go_wp2_with fail;go_ret;exact⟨by rw [HR.out];rfl,HBw.out⟩
end
end Go.Proofs.YtngepacmgabmaaaGreatDoor
