/- Walks: rules.act, rules.first, rules.Che; Walks: rules.one, rules.Check, given wha .. -/
import Derived.Test.YtngepacmgabmaaaGreatDoorGan
namespace Go.Proofs.YtngepacmgabmaaaGreatDoor
open Go.RowKit
set_option linter.unusedVariables false
set_option linter.unusedSimpArgs false
set_option maxRecDepth 100000 in
set_option maxHeartbeats 4000000 in
theorem k59 (x:Int×Int) (w:World):Calls Tryz.prog 74 #[.agg #[.int .i64 x.1,.int .i64 x.2]] w λ e w'=>e= .returned (.int .i64 (e01 (okX x)))/\Below w.heap.size w w':=by
 obtain⟨k,n⟩:=x;dsimp only;obtain⟨R,hR⟩:∃ R,R=okX (k,n):=⟨_,rfl⟩;have hr:R=((k==1&&n==0)||(k==2&&decide (400<=n/\n<=599))||(k==3&&decide (1<=n/\n<=1000))||(k==4&&decide (1<=n/\n<=9))||(k==5&&n==0)):=hR;rw [<-hR];clear hR;have hk:(k=2\/k=3\/k=4\/k=1\/k=5)\/(k≠1/\k≠2/\k≠3/\k≠4/\k≠5):=by omega
 rcases hk with hk|⟨k1,k2,k3,k4,k5⟩
 . have hb:∃ lo hi:Int,((k=2/\lo=400/\hi=599)\/(k=3/\lo=1/\hi=1000)\/(k=4/\lo=1/\hi=9)\/(k=1/\lo=0/\hi=0)\/(k=5/\lo=0/\hi=0)):=by
    rcases hk with h|h|h|h|h
    . exact⟨_,_,.inl ⟨h,rfl,rfl⟩⟩
    . exact⟨_,_,.inr (.inl ⟨h,rfl,rfl⟩)⟩
    . exact⟨_,_,.inr (.inr (.inl ⟨h,rfl,rfl⟩))⟩
    . exact⟨_,_,.inr (.inr (.inr (.inl ⟨h,rfl,rfl⟩)))⟩
    . exact⟨_,_,.inr (.inr (.inr (.inr ⟨h,rfl,rfl⟩)))⟩
   obtain⟨lo,hi,hb⟩:=hb
   have hc:(n<lo/\R=false)\/(¬n<lo/\hi<n/\R=false)\/(¬n<lo/\¬hi<n/\R=true):=by
    by_cases c1:n<lo
    . refine .inl ⟨c1,?_⟩;rcases hb with⟨rfl,rfl,rfl⟩|⟨rfl,rfl,rfl⟩|⟨rfl,rfl,rfl⟩|⟨rfl,rfl,rfl⟩|⟨rfl,rfl,rfl⟩<;>(rw [hr];simp;omega)
    . by_cases c2:hi<n
      focus
       refine .inr (.inl ⟨c1,c2,?_⟩)
      rotate_left
      focus
       refine .inr (.inr ⟨c1,c2,?_⟩)
      all_goals
       rcases hb with⟨rfl,rfl,rfl⟩|⟨rfl,rfl,rfl⟩|⟨rfl,rfl,rfl⟩|⟨rfl,rfl,rfl⟩|⟨rfl,rfl,rfl⟩<;>(rw [hr];simp;omega)
   clear hr hk;rcases hb with⟨rfl,rfl,rfl⟩|⟨rfl,rfl,rfl⟩|⟨rfl,rfl,rfl⟩|⟨rfl,rfl,rfl⟩|⟨rfl,rfl,rfl⟩
   all_goals
    rcases hc with⟨c1,rfl⟩|⟨c1,c2,rfl⟩|⟨c1,c2,rfl⟩
    all_goals
     go_enter Tryz.func74,Tryz.ntmps74;go_wp2_with fail;go_ret;exact⟨rfl,(Below.refl _ _).alloc (Nat.le_refl _) _⟩
 . have HR:Hid (R=false):=qh (by rw [hr];simp [k1,k2,k3,k4,k5]);clear hr;have e1:(k==1)=false:=(by simp [k1]);have e2:(k==2)=false:=(by simp [k2]);have e3:(k==3)=false:=(by simp [k3]);have e4:(k==4)=false:=(by simp [k4]);have e5:(k==5)=false:=(by simp [k5]);clear k1 k2 k3 k4 k5;go_enter Tryz.func74,Tryz.ntmps74;go_wp2_with fail;go_ret;exact⟨by rw [HR.out];rfl,(Below.refl _ _).alloc (Nat.le_refl _) _⟩
set_option maxRecDepth 100000 in
set_option maxHeartbeats 2000000 in
theorem k21 (l:List Vr) (A:Option Addr) (cap B:Nat) (w:World) (h:VrR w B A cap l) (hB:B<=w.heap.size) (hl:l.length<=9000000000):
 Calls Tryz.prog 69 #[.slice A l.length cap,.func (.func 70) #[] #[]] w λ e w'=>e= .returned (.int .i64 (e01 (l.all okV)))/\Below w.heap.size w w':=by
 have H:=qh h;clear h;go_enter Tryz.func69,Tryz.ntmps69;go_wp2_with fail;go_loopw [10] (λ u wr=>∃ k:Nat,u= .int .i64 (k:Int)/\k<=l.length/\Hid (∀ j (hj:j<l.length),j<k->okV l[j]=true)/\Hid (Below w.heap.size w wr)) (λ u _=>l.length-(intOf u).toNat)
 case atStart=>exact⟨0,rfl,Nat.zero_le _,qh λ j hj h=>absurd h (Nat.not_lt_zero _),qh (Below.refl _ _)⟩
 case round=>
  obtain⟨k,rfl,hk,HA,HB⟩:=hrel;by_cases hlk:k<l.length
  . have k1:(k:Int)<(l.length:Int):=(by omega);have k0:(0:Int)<=(k:Int):=(by omega);have kw:IntKind.i64.wrap ((k:Int)+1)=(k:Int)+1:=IntWalk.i64_in _ (by omega);obtain⟨ad,rfl,hab,x0,x1,x2,hz⟩:=(H.out.below (HB.out.mono hB)).cells hlk;have hbw:ad.block<wr.heap.size:=Nat.lt_of_lt_of_le hab (Nat.le_trans hB HB.out.size);obtain⟨v,hv⟩:∃ v,v=l[k]:=⟨_,rfl⟩;rw [<-hv] at x0 x1 x2 hz;have CV:=qh λ W=>kj9 v W (by omega)
    have hb2:∀ o:Obj,Below w.heap.size w (wr.alloc o):=λ o=>HB.out.alloc HB.out.size _
    have HB2:=qh hb2;clear hb2;cases hok:okV v with
    |true=>
     rw [hok] at CV
     have HA2:Hid (∀ j (hj:j<l.length),j<k+1->okV l[j]=true):=qh λ j hj h=>by
      by_cases e:j=k
      . subst e;rw [<-hv];exact hok
      . exact HA.out j hj (by omega)
     clear hok hv HA;go_wp2_with fail;refine(CV.out _).mono ?_;rintro e w1 ⟨rfl,b1⟩;have HB3:=qh ((HB2.out _).trans (b1.mono (HB2.out _).size));clear b1;go_wp2_with fail;go_roundw
     case rel=>exact⟨k+1,by go_num,by omega,HA2,HB3⟩
     case measure=>simp [intOf];omega
    |false=>
     rw [hok] at CV
     have HE:Hid (l.all okV=false):=qh (by
      rw [Bool.eq_false_iff];intro h;rw [List.all_eq_true] at h;have:=h _ (List.getElem_mem hlk);rw [<-hv,hok] at this;cases this)
     clear hok hv HA;go_wp2_with fail;refine(CV.out _).mono ?_;rintro e w1 ⟨rfl,b1⟩;have HB3:=qh ((HB2.out _).trans (b1.mono (HB2.out _).size));clear b1;go_wp2_with fail;go_ret;exact⟨by rw [HE.out];rfl,HB3.out⟩
  . obtain rfl:k=l.length:=by omega
    have HE:Hid (l.all okV=true):=qh (by
     rw [List.all_eq_true];intro v hv;obtain⟨i,hi,rfl⟩:=List.mem_iff_getElem.1 hv;exact HA.out i hi hi)
    clear HA;go_wp2_with fail;go_ret;exact⟨by rw [HE.out];rfl,HB.out⟩
set_option maxRecDepth 100000 in
set_option maxHeartbeats 2000000 in
theorem Q29 (l:List (Int×Int)) (A:Option Addr) (cap B:Nat) (w:World) (h:Reads w B 2 A l.length (l.flatMap jQ1)) (hB:B<=w.heap.size) (hl:l.length<=9000000000):
 Calls Tryz.prog 73 #[.slice A l.length cap,.func (.func 74) #[] #[]] w λ e w'=>e= .returned (.int .i64 (e01 (l.all okX)))/\Below w.heap.size w w':=by
 have H:=qh h;clear h;go_enter Tryz.func73,Tryz.ntmps73;go_wp2_with fail;go_loopw [10] (λ u wr=>∃ k:Nat,u= .int .i64 (k:Int)/\k<=l.length/\Hid (∀ j (hj:j<l.length),j<k->okX l[j]=true)/\Hid (Below w.heap.size w wr)) (λ u _=>l.length-(intOf u).toNat)
 case atStart=>exact⟨0,rfl,Nat.zero_le _,qh λ j hj h=>absurd h (Nat.not_lt_zero _),qh (Below.refl _ _)⟩
 case round=>
  obtain⟨k,rfl,hk,HA,HB⟩:=hrel;by_cases hlk:k<l.length
  . have k1:(k:Int)<(l.length:Int):=(by omega);have k0:(0:Int)<=(k:Int):=(by omega);have kw:IntKind.i64.wrap ((k:Int)+1)=(k:Int)+1:=IntWalk.i64_in _ (by omega);obtain⟨ad,rfl,hab,x0,x1⟩:=Zk6 (H.out.below (HB.out.mono hB)) hlk;have hbw:ad.block<wr.heap.size:=Nat.lt_of_lt_of_le hab (Nat.le_trans hB HB.out.size);obtain⟨v,hv⟩:∃ v,v=l[k]:=⟨_,rfl⟩;rw [<-hv] at x0 x1;have CV:=qh λ W=>k59 v W
    have hb2:∀ o:Obj,Below w.heap.size w (wr.alloc o):=λ o=>HB.out.alloc HB.out.size _
    have HB2:=qh hb2;clear hb2;cases hok:okX v with
    |true=>
     rw [hok] at CV
     have HA2:Hid (∀ j (hj:j<l.length),j<k+1->okX l[j]=true):=qh λ j hj h=>by
      by_cases e:j=k
      . subst e;rw [<-hv];exact hok
      . exact HA.out j hj (by omega)
     clear hok hv HA;go_wp2_with fail;refine(CV.out _).mono ?_;rintro e w1 ⟨rfl,b1⟩;have HB3:=qh ((HB2.out _).trans (b1.mono (HB2.out _).size));clear b1;go_wp2_with fail;go_roundw
     case rel=>exact⟨k+1,by go_num,by omega,HA2,HB3⟩
     case measure=>simp [intOf];omega
    |false=>
     rw [hok] at CV
     have HE:Hid (l.all okX=false):=qh (by
      rw [Bool.eq_false_iff];intro h;rw [List.all_eq_true] at h;have:=h _ (List.getElem_mem hlk);rw [<-hv,hok] at this;cases this)
     clear hok hv HA;go_wp2_with fail;refine(CV.out _).mono ?_;rintro e w1 ⟨rfl,b1⟩;have HB3:=qh ((HB2.out _).trans (b1.mono (HB2.out _).size));clear b1;go_wp2_with fail;go_ret;exact⟨by rw [HE.out];rfl,HB3.out⟩
  . obtain rfl:k=l.length:=by omega
    have HE:Hid (l.all okX=true):=qh (by
     rw [List.all_eq_true];intro v hv;obtain⟨i,hi,rfl⟩:=List.mem_iff_getElem.1 hv;exact HA.out i hi hi)
    clear HA;go_wp2_with fail;go_ret;exact⟨by rw [HE.out];rfl,HB.out⟩
def idB (d:Int) (y:Ru):Bool:=y.id==d
section
variable (d:Int) (g:Nat)
set_option maxHeartbeats 1000000 in
theorem zb9 (r:Ru) (w:World) (h1:w.cell? ⟨g,0,none⟩=some (.int .i64 d)):
 Calls Tryz.prog 35 #[.agg (Zn7 r).toArray,.pointer (some ⟨g,0,none⟩)] w λ e w'=>e= .returned (.bool (idB d r))/\Below w.heap.size w w':=by
 obtain⟨id,ph,vs,zs,no,op,arg,xs,ch,VA,vc,ZA,zc,XA,xc⟩:=r;have hg:=World.block_lt_of_cell? _ _ h1;have hR:idB d ⟨id,ph,vs,zs,no,op,arg,xs,ch,VA,vc,ZA,zc,XA,xc⟩=(id==d):=rfl;rw [hR];clear hR;dsimp only [Zn7];go_enter Tryz.func35,Tryz.ntmps35;go_wp2_with fail;go_ret;exact⟨rfl,(Below.refl _ _).alloc (Nat.le_refl _) _⟩
variable (l:List Ru) (A:Option Addr) (cap B:Nat) (w:World)
def YC0 (d:Int) (l:List Ru) (w:World) (e:Ending) (w':World):Prop:=∃ r:Int,e= .returned (.int .i64 r)/\((r<0/\l.any (idB d)=false)\/(0<=r/\l.any (idB d)=true))/\Below w.heap.size w w'
set_option maxRecDepth 100000 in
set_option maxHeartbeats 2000000 in
theorem Z75 (h:RuR w B A cap l) (h1:w.cell? ⟨g,0,none⟩=some (.int .i64 d)):
 Calls Tryz.prog 68 #[.slice A l.length cap,.func (.func 35) #[] #[.pointer (some ⟨g,0,none⟩)]] w (YC0 d l w):=by
 obtain⟨hl,hl2⟩:=h.hc;have hB:=h.hB;have CE:=qh λ x w' (hb:Below w.heap.size w w')=>zb9 d g x w' ((hb.cell (p:=⟨g,0,none⟩) (World.block_lt_of_cell? _ _ h1)).trans h1)
 have HR:=qh λ w' (hb:Below w.heap.size w w')=>h.kept hb
 clear h h1;go_enter Tryz.func68,Tryz.ntmps68;go_wp2_with fail;go_loopw [8] (λ u wr=>∃ k:Nat,u= .int .i64 (k:Int)/\k<=l.length/\Hid (Below w.heap.size w wr)/\Hid (∀ j (hj:j<l.length),j<k->idB d l[j]=false)) (λ u _=>l.length-(intOf u).toNat)
 case atStart=>exact⟨0,rfl,Nat.zero_le _,qh (Below.refl _ _),qh λ j hj h=>absurd h (Nat.not_lt_zero _)⟩
 case round=>
  obtain⟨k,rfl,hk,HB,HN⟩:=hrel;by_cases hlt:k<l.length
  . have i1:(k:Int)<(l.length:Int):=(by omega);have i0:(0:Int)<=(k:Int):=(by omega);have iw:IntKind.i64.wrap ((k:Int)+1)=(k:Int)+1:=IntWalk.i64_in _ (by omega);obtain⟨r,hr⟩:∃ r,l[k]? =some r:=⟨_,List.getElem?_eq_getElem hlt⟩;obtain⟨ad,rfl,hb,z0,z1,z2,z3,z4,z5,z6,z7,z8⟩:=(HR.out wr HB.out).at_ hr;have hbw:ad.block<wr.heap.size:=(by have:=(HR.out wr HB.out).hB;omega);have hlr:l[k]=r:=(by rw [List.getElem?_eq_getElem hlt] at hr;exact Option.some.inj hr);have C:=CE.out r wr HB.out;cases hv:idB d r with
    |true=>
     rw [hv] at C;have C:=qh C;have HV:Hid (l.any (idB d)=true):=qh (List.any_eq_true.2 ⟨_,List.getElem_mem hlt,by rw [hlr];exact hv⟩);clear hv hr hlr HN;go_wp2_with fail;refine C.out.mono ?_;rintro e w1 ⟨rfl,b1⟩;have HB2:=qh (HB.out.trans (b1.mono HB.out.size));clear b1 C;go_wp2_with fail;go_ret;exact⟨(k:Int),rfl,.inr ⟨by omega,HV.out⟩,HB2.out⟩
    |false=>
     rw [hv] at C;have C:=qh C
     have HN2:Hid (∀ j (hj:j<l.length),j<k+1->idB d l[j]=false):=qh λ j hj h=>by
      by_cases e:j=k
      . subst e;rw [hlr];exact hv
      . exact HN.out j hj (by omega)
     clear hv hr hlr HN;go_wp2_with fail;refine C.out.mono ?_;rintro e w1 ⟨rfl,b1⟩;have HB2:=qh (HB.out.trans (b1.mono HB.out.size));clear b1 C;go_wp2_with fail;go_roundw
     case rel=>exact⟨k+1,by go_num,by omega,HB2,HN2⟩
     case measure=>simp [intOf];omega
  . obtain rfl:k=l.length:=by omega
    have HV:Hid (l.any (idB d)=false):=qh (by
     rw [List.any_eq_false];intro z hz;obtain⟨i,hi,rfl⟩:=List.mem_iff_getElem.1 hz;rw [HN.out i hi hi];decide)
    clear hlt HN;go_wp2_with fail;go_ret;exact⟨-1,rfl,.inl ⟨by omega,HV.out⟩,HB.out⟩
theorem qi1 (h:RuR w B A cap l) (h1:w.cell? ⟨g,0,none⟩=some (.int .i64 d)):
 Calls Tryz.prog 34 #[.slice A l.length cap,.func (.func 35) #[] #[.pointer (some ⟨g,0,none⟩)]] w λ e w'=>e= .returned (.bool (l.any (idB d)))/\Below w.heap.size w w':=by
 have C:=qh (Z75 d g l A cap B w h h1);clear h h1;obtain⟨R,hR⟩:∃ R,R=l.any (idB d):=⟨_,rfl⟩;unfold YC0 at C;rw [<-hR] at C⊢;clear hR;go_enter Tryz.func34,Tryz.ntmps34;go_wp2_with fail;refine C.out.mono ?_;rintro e w1 ⟨r,rfl,hc,b1⟩;have HB:=qh b1;clear b1 C;rcases hc with⟨h1,rfl⟩|⟨h1,rfl⟩
 . have h2:decide ((0:Int)<=r)=false:=dF (by omega);clear h1;go_wp2_with fail;go_ret;exact⟨rfl,HB.out⟩
 . have h2:decide ((0:Int)<=r)=true:=dT h1;go_wp2_with fail;go_ret;exact⟨rfl,HB.out⟩
end
def ArgOk (F:FuncId) (AE:Int->ByteArray->Int) (w:World):Prop:=∀ (op:Int) (s:ByteArray) (W:World),Below w.heap.size w W->s.size<=1048576->1<=op->op<=12->Calls Tryz.prog F #[.int .i64 op,.string s] W λ e w'=>e= .returned (.int .i64 (AE op s))/\Below W.heap.size W w'
theorem ArgOk.below {F:FuncId} {AE:Int->ByteArray->Int} {w w1:World} (h:ArgOk F AE w) (hb:Below w.heap.size w w1):ArgOk F AE w1:=λ op s W h1=>h op s W (hb.trans (h1.mono hb.size))
section
variable (AE:Int->ByteArray->Int) (r:Ru) (B:Nat) (w:World)
set_option maxRecDepth 100000 in
set_option maxHeartbeats 4000000 in
theorem Yk9 (h:RuM w B r) (hB:B<=w.heap.size) (hA:ArgOk 72 AE w):
 Calls Tryz.prog 36 #[.agg (Zn7 r).toArray] w λ e w'=>e= .returned (.int .i64 (x79 AE r))/\Below w.heap.size w w':=by
 have hvl:=h.vs.2.1;have hvc:=h.vs.2.2.1;obtain⟨hzl,hzc⟩:=h.zl;obtain⟨hxl,hxc⟩:=h.xl;have hag:=h.ag;obtain⟨id,ph,vs,zs,no,op,arg,xs,ch,VA,vc,ZA,zc,XA,xc⟩:=r;obtain⟨R,hR⟩:∃ R,R=x79 AE ⟨id,ph,vs,zs,no,op,arg,xs,ch,VA,vc,ZA,zc,XA,xc⟩:=⟨_,rfl⟩;rw [<-hR];unfold x79 at hR;dsimp only at hR hvl hvc hzl hzc hxl hxc hag;have H1:=qh h.vs;have H2:=qh h.zs;have H3:=qh h.xs;dsimp only at H1 H2 H3;have HA:=qh hA;clear h hA;dsimp only [Zn7];have hba:∀ o:Obj,Below w.heap.size w (w.alloc o):=λ o=>(Below.refl _ _).alloc (Nat.le_refl _) _
 have HBA:=qh hba;clear hba;by_cases g1:8<vs.length\/6<xs.length
 . have HR:Hid (R=2):=qh (by rw [hR,if_pos g1]);clear hR;have hc:(8:Int)<(vs.length:Int)\/(¬(8:Int)<(vs.length:Int)/\(6:Int)<(xs.length:Int)):=(by omega);clear g1;rcases hc with c1|⟨c1,c2⟩
   all_goals
    go_enter Tryz.func36,Tryz.ntmps36;go_wp2_with fail;go_ret;exact⟨by rw [HR.out];rfl,HBA.out _⟩
 rw [if_neg g1] at hR;have n1:¬(8:Int)<(vs.length:Int):=by omega
 have n2:¬(6:Int)<(xs.length:Int):=by omega
 have hv8:vs.length<=8:=by omega
 have hx6:xs.length<=6:=by omega
 clear g1;by_cases g2:vs.length=0\/xs.length=0
 . have HR:Hid (R=1):=qh (by rw [hR,if_pos g2]);clear hR
   have hc:((vs.length:Int)==0)=true\/(((vs.length:Int)==0)=false/\((xs.length:Int)==0)=true):=by
    by_cases c:vs.length=0
    . exact .inl (beq_iff_eq.2 (by omega))
    . exact .inr ⟨beq_eq_false_iff_ne.2 (by omega),beq_iff_eq.2 (by omega)⟩
   clear g2;rcases hc with c1|⟨c1,c2⟩
   all_goals
    go_enter Tryz.func36,Tryz.ntmps36;go_wp2_with fail;go_ret;exact⟨by rw [HR.out];rfl,HBA.out _⟩
 rw [if_neg g2] at hR;have n3:((vs.length:Int)==0)=false:=beq_eq_false_iff_ne.2 (by omega);have n4:((xs.length:Int)==0)=false:=beq_eq_false_iff_ne.2 (by omega);clear g2;have HRI:=qh hR;clear hR;go_enter Tryz.func36,Tryz.ntmps36;go_wp2_with fail;obtain⟨W0,hW0⟩:∃ W0,w.alloc (.cells #[.int .i64 id,.int .i64 ph,.slice VA vs.length vc,.slice ZA zs.length zc,.bool no,.int .i64 op,.string arg,.slice XA xs.length xc,.bool ch] 44)=W0:=⟨_,rfl⟩;have hk0:Blk W0 w.heap.size 44 #[.int .i64 id,.int .i64 ph,.slice VA vs.length vc,.slice ZA zs.length zc,.bool no,.int .i64 op,.string arg,.slice XA xs.length xc,.bool ch]:=by rw [<-hW0];exact Blk.new _ _ _
 have HB0:Hid (Below w.heap.size w W0):=qh (by rw [<-hW0];exact HBA.out _);rw [hW0];clear hW0;have HK0:=qh hk0;clear hk0;refine(k21 vs VA vc B W0 (H1.out.below (HB0.out.mono hB)) (Nat.le_trans hB HB0.out.size) (by omega)).mono ?_;rintro e w1 ⟨rfl,b1⟩;have HB1:=qh (HB0.out.trans (b1.mono HB0.out.size));have hk1:=HK0.out.below b1 (Blk.lt HK0.out);have HK1:=qh hk1;have k13:=Blk.e3 hk1;clear b1 hk1;by_cases g3:vs.all okV=true
 . have hv:(e01 (vs.all okV) !=0)=false:=(by rw [g3];rfl);have HRI2:=qh (show R=if ¬yU7 zs=0 then yU7 zs else if op<1\/12<op then 1 else if ¬AE op arg=0 then AE op arg else if xs.all okX=true then 0 else 1 from by rw [HRI.out,if_neg (by simp [g3])]);clear HRI g3;go_wp2_with fail;refine(qA0 zs ZA zc w1 ((H2.out.below (HB1.out.mono hB)).more (Nat.le_trans hB HB1.out.size)) (by omega)).mono ?_;rintro e w2 ⟨rfl,rfl⟩;by_cases g4:yU7 zs=0
   . have hp:(yU7 zs !=0)=false:=(by rw [g4];rfl);obtain⟨_,_,_,_,_,k15,k16⟩:=Blk.c7 HK1.out;have HRI3:=qh (show R=if op<1\/12<op then 1 else if ¬AE op arg=0 then AE op arg else if xs.all okX=true then 0 else 1 from by rw [HRI2.out,if_neg (by simp [g4])]);clear HRI2 g4;by_cases g5:op<1\/12<op
     . have HR:Hid (R=1):=qh (by rw [HRI3.out,if_pos g5]);have hc:op<1\/(¬op<1/\12<op):=(by omega);clear HRI3 g5;rcases hc with c1|⟨c1,c2⟩
       all_goals
        go_wp2_with fail;go_ret;exact⟨by rw [HR.out];rfl,HB1.out⟩
     . have o1:¬op<1:=(by omega);have o2:¬12<op:=(by omega);have HRI4:=qh (show R=if ¬AE op arg=0 then AE op arg else if xs.all okX=true then 0 else 1 from by rw [HRI3.out,if_neg g5]);clear HRI3 g5;go_wp2_with fail;refine(HA.out op arg w1 HB1.out hag (by omega) (by omega)).mono ?_;rintro e w3 ⟨rfl,b3⟩;have HB3:=qh (HB1.out.trans (b3.mono HB1.out.size));have k37:=Blk.e7 (HK1.out.below b3 (Blk.lt HK1.out));clear b3;by_cases g6:AE op arg=0
       . have ha:(AE op arg !=0)=false:=(by rw [g6];rfl);have HR:Hid (R=e01 (xs.all okX)):=qh (by rw [HRI4.out,if_neg (by simp [g6])];rfl);clear HRI4 g6;go_wp2_with fail;refine(Q29 xs XA xc B w3 (H3.out.below (HB3.out.mono hB)) (Nat.le_trans hB HB3.out.size) (by omega)).mono ?_;rintro e w4 ⟨rfl,b4⟩;have HB4:=qh (HB3.out.trans (b4.mono HB3.out.size));clear b4;go_wp2_with fail;go_ret;exact⟨by rw [HR.out];rfl,HB4.out⟩
       . have ha:(AE op arg !=0)=true:=bne_iff_ne.2 g6;have HR:Hid (R=AE op arg):=qh (by rw [HRI4.out,if_pos g6]);clear HRI4 g6;go_wp2_with fail;go_ret;exact⟨by rw [HR.out];rfl,HB3.out⟩
   . have hp:(yU7 zs !=0)=true:=bne_iff_ne.2 g4;have HR:Hid (R=yU7 zs):=qh (by rw [HRI2.out,if_pos g4]);clear HRI2 g4;go_wp2_with fail;go_ret;exact⟨by rw [HR.out];rfl,HB1.out⟩
 . have HR:Hid (R=1):=qh (by rw [HRI.out,if_pos g3]);have hf:=Bool.eq_false_iff.2 g3;rw [hf];clear HRI g3 hf;go_wp2_with fail;go_ret;exact⟨by rw [HR.out];rfl,HB1.out⟩
end
theorem RuR.take {w:World} {B:Nat} {A:Option Addr} {cap:Nat} {l:List Ru} (h:RuR w B A cap l) {k:Nat} (hk:k<=l.length):RuR w B A cap (l.take k):=by
 have hl:(l.take k).length=k:=by rw [List.length_take,Nat.min_eq_left hk]
 refine⟨⟨KK8 (sz:=9) (λ _=>rfl) _,λ h0=> ?_⟩,h.hB,⟨by rw [hl];exact Nat.le_trans hk h.hc.1,h.hc.2⟩,λ r hr=>h.ok r (List.mem_of_mem_take hr)⟩;obtain⟨ad,e,hb,hc⟩:=h.rd.2 (by omega);refine⟨ad,e,hb,λ j u hu=>hc j u ?_⟩;have e2:l.flatMap Zn7=(l.take k).flatMap Zn7++(l.drop k).flatMap Zn7:=by rw [<-List.flatMap_append,List.take_append_drop]
 rw [e2,List.getElem?_append_left (List.getElem?_eq_some_iff.1 hu).1];exact hu
theorem KA9 {AE:Int->ByteArray->Int} {l:List Ru} {k:Nat} {r:Ru} (h:r.id<1\/9999<r.id\/¬(r.ph=1\/r.ph=2)):Zh1 AE l k r=1:=if_pos h
theorem ZK8 {AE:Int->ByteArray->Int} {l:List Ru} {k:Nat} {r:Ru} (h:¬(r.id<1\/9999<r.id\/¬(r.ph=1\/r.ph=2))) (h2:(l.take k).any (idB r.id)=true):Zh1 AE l k r=9:=by
 unfold Zh1;rw [if_neg h];exact if_pos h2
theorem Za2 {AE:Int->ByteArray->Int} {l:List Ru} {k:Nat} {r:Ru} (h:¬(r.id<1\/9999<r.id\/¬(r.ph=1\/r.ph=2))) (h2:(l.take k).any (idB r.id)=false):Zh1 AE l k r=x79 AE r:=by
 unfold Zh1;rw [if_neg h];exact if_neg (by show ¬(l.take k).any (idB r.id)=true;rw [h2];decide)
section
variable (AE:Int->ByteArray->Int) (most st:Int) (l:List Ru) (A:Option Addr) (cap B:Nat) (w:World)
set_option maxRecDepth 100000 in
set_option maxHeartbeats 8000000 in
theorem kC7 (h:RuR w B A cap l) (hA:ArgOk 72 AE w):
 Calls Tryz.prog 11 #[.agg #[.int .i64 most,.int .i64 st,.slice A l.length cap]] w λ e w'=>e= .returned (.int .i64 (QR3 AE most st l))/\Below w.heap.size w w':=by
 obtain⟨hlc,hcc⟩:=h.hc;obtain⟨R,hR⟩:∃ R,R=QR3 AE most st l:=⟨_,rfl⟩;rw [<-hR];unfold QR3 at hR;have H:=qh h;have hBw:=h.hB;have HA:=qh hA;clear h hA;have hba:∀ o:Obj,Below w.heap.size w (w.alloc o):=λ o=>(Below.refl _ _).alloc (Nat.le_refl _) _
 have HBA:=qh hba;clear hba;by_cases g1:most<1\/1000000<most\/st<400\/599<st
 . have HR:Hid (R=1):=qh (by rw [hR,if_pos g1]);clear hR;have hc:most<1\/(¬most<1/\1000000<most)\/(¬most<1/\¬1000000<most/\st<400)\/(¬most<1/\¬1000000<most/\¬st<400/\599<st):=(by omega);clear g1;rcases hc with c1|⟨c1,c2⟩|⟨c1,c2,c3⟩|⟨c1,c2,c3,c4⟩
   all_goals
    go_enter Tryz.func11,Tryz.ntmps11;go_wp2_with fail;go_ret;exact⟨by rw [HR.out];rfl,HBA.out _⟩
 rw [if_neg g1] at hR;have c1:¬most<1:=by omega
 have c2:¬1000000<most:=by omega
 have c3:¬st<400:=by omega
 have c4:¬599<st:=by omega
 clear g1;by_cases g2:40<l.length
 . have HR:Hid (R=2):=qh (by rw [hR,if_pos g2]);have d1:(40:Int)<(l.length:Int):=(by omega);clear hR;go_enter Tryz.func11,Tryz.ntmps11;go_wp2_with fail;go_ret;exact⟨by rw [HR.out];rfl,HBA.out _⟩
 rw [if_neg g2] at hR;have d1:¬(40:Int)<(l.length:Int):=by omega
 have hl40:l.length<=40:=by omega
 clear g2;obtain⟨F,hF⟩:∃ F,F=frE AE l l 0:=⟨_,rfl⟩;obtain⟨C,hC⟩:∃ C,C=chL l l 0:=⟨_,rfl⟩;rw [<-hF,<-hC] at hR;have HRF:=qh hR;have HF0:Hid (F=frE AE l (l.drop 0) 0):=qh hF;have HC0:Hid (C=chL l (l.drop 0) 0):=qh hC;clear hR hF hC;go_enter Tryz.func11,Tryz.ntmps11;go_wp2_with fail;obtain⟨W0,hW0⟩:∃ W0,w.alloc (.cells #[.int .i64 most,.int .i64 st,.slice A l.length cap] 24)=W0:=⟨_,rfl⟩;have hk0:Blk W0 w.heap.size 24 #[.int .i64 most,.int .i64 st,.slice A l.length cap]:=by rw [<-hW0];exact Blk.new _ _ _
 have HB0:Hid (Below w.heap.size w W0):=qh (by rw [<-hW0];exact HBA.out _);rw [hW0];have HK0:=qh hk0;have hlt0:w.heap.size<W0.heap.size:=Blk.lt hk0;clear hW0 hk0 HBA;go_loopw [33] (λ u wr=>∃ k:Nat,u= .int .i64 (k:Int)/\k<=l.length/\Hid (F=frE AE l (l.drop k) k)/\Hid (Below W0.heap.size W0 wr)) (λ u _=>l.length-(intOf u).toNat)
 case atStart=>exact⟨0,rfl,Nat.zero_le _,HF0,qh (Below.refl _ _)⟩
 case round=>
  clear HF0;obtain⟨k,rfl,hk,HF,HB⟩:=hrel;have x2:=Blk.e2 (HK0.out.below HB.out hlt0);have hltr:w.heap.size<wr.heap.size:=Nat.lt_of_lt_of_le hlt0 HB.out.size;by_cases hlk:k<l.length
  . have k1:(k:Int)<(l.length:Int):=(by omega);have k0:(0:Int)<=(k:Int):=(by omega);have kw:IntKind.i64.wrap ((k:Int)+1)=(k:Int)+1:=IntWalk.i64_in _ (by omega);have kc:(k:Int)<=(cap:Int):=(by omega);have hBw2:Below w.heap.size w wr:=HB0.out.trans (HB.out.mono (Nat.le_of_lt hlt0));have HBw2:=qh hBw2;have hRr:=H.out.below (hBw2.mono hBw);have HRr:=qh hRr;have hBr:=hRr.hB;obtain⟨r,hr⟩:∃ r,l[k]? =some r:=⟨_,List.getElem?_eq_getElem hlk⟩;obtain⟨ad,rfl,hb,z0,z1,z2,z3,z4,z5,z6,z7,z8⟩:=hRr.at_ hr;have hbw:ad.block<wr.heap.size:=Nat.lt_of_lt_of_le hb hBr;have hok:=hRr.ok r (List.mem_of_getElem? hr);have HRD:=qh hr;obtain⟨id,ph,vs,zs,no,op,arg,xs,ch,VA,vc,ZA,zc,XA,xc⟩:=r;have HOK:=qh hok;dsimp only at z0 z1 z2 z3 z4 z5 z6 z7 z8;clear hBw2 hRr hr hok;have hNB:∀ o:Obj,Below W0.heap.size W0 (wr.alloc o):=λ o=>HB.out.alloc HB.out.size _
    have HNB:=qh hNB;clear hNB;by_cases g3:id<1\/9999<id\/¬(ph=1\/ph=2)
    . have HR:Hid (R=1):=qh (by
       have e:=KA9 (AE:=AE) (l:=l) (k:=k) (r:=⟨id,ph,vs,zs,no,op,arg,xs,ch,VA,vc,ZA,zc,XA,xc⟩) g3;rw [HRF.out,HF.out,KJ2 HRD.out (by rw [e];decide),e];rfl)
      have hc:id<1\/(¬id<1/\9999<id)\/(¬id<1/\¬9999<id/\ph≠1/\ph≠2):=(by omega);clear g3;rcases hc with q1|⟨q1,q2⟩|⟨q1,q2,q3,q4⟩
      rotate_left
      rotate_left
      focus
       have q5:(ph !=1)=true:=bne_iff_ne.2 q3;have q6:(ph !=2)=true:=bne_iff_ne.2 q4;clear q3 q4
      all_goals
       go_wp2_with fail;go_ret;exact⟨by rw [HR.out];rfl,HB0.out.trans ((HNB.out _).mono (Nat.le_of_lt hlt0))⟩
    . have q1:¬id<1:=(by omega);have q2:¬9999<id:=(by omega);have hph:ph=1\/ph=2:=(by omega);have HG3:=qh g3;clear g3;obtain⟨W1,hW1⟩:∃ W1,wr.alloc (.cells #[.int .i64 id,.int .i64 ph,.slice VA vs.length vc,.slice (ZA) zs.length zc,.bool no,.int .i64 op,.string arg,.slice XA xs.length xc,.bool ch] 44)=W1:=⟨_,rfl⟩;have hk1:Blk W1 wr.heap.size 44 #[.int .i64 id,.int .i64 ph,.slice VA vs.length vc,.slice (ZA) zs.length zc,.bool no,.int .i64 op,.string arg,.slice XA xs.length xc,.bool ch]:=(by rw [<-hW1];exact Blk.new _ _ _);have HB1:Hid (Below W0.heap.size W0 W1):=qh (by rw [<-hW1];exact HNB.out _);have hb1:Below wr.heap.size wr W1:=(by rw [<-hW1];exact(Below.refl _ _).alloc (Nat.le_refl _) _);have hR1:=(HRr.out.below (hb1.mono hBr)).take (Nat.le_of_lt hlk);have htl:(l.take k).length=k:=(by rw [List.length_take,Nat.min_eq_left hk]);have CC:=qi1 id wr.heap.size (l.take k) (some ad) cap B W1 hR1 (by have:=hk1.cell 0;exact this);rw [htl] at CC;have CC:=qh CC;have HK1:=qh hk1;have hz1:wr.heap.size<W1.heap.size:=Blk.lt hk1;have x21:=Blk.e2 (HK0.out.below HB1.out hlt0);obtain⟨y0,y1⟩:=Blk.c2 hk1;have hOK1:Hid (RuM W1 B ⟨id,ph,vs,zs,no,op,arg,xs,ch,VA,vc,ZA,zc,XA,xc⟩):=qh (HOK.out.below (hb1.mono hBr));have hB1w:B<=W1.heap.size:=Nat.le_trans hBr hb1.size;have HWW:=qh hW1;clear hb1 hR1 hk1 htl hW1;obtain⟨D,hD⟩:∃ D,D=(l.take k).any (idB id):=⟨_,rfl⟩;rw [<-hD] at CC;have HD:=qh hD;clear hD
      have hq:((ph !=1)=false)\/((ph !=1)=true/\(ph !=2)=false):=by
       rcases hph with h|h
       . exact .inl (bne_eq_false_iff_eq.2 h)
       . exact .inr ⟨bne_iff_ne.2 (by omega),bne_eq_false_iff_eq.2 h⟩
      clear hph;have CO:=qh λ w2 (hb:Below W1.heap.size W1 w2)=>Yk9 AE ⟨id,ph,vs,zs,no,op,arg,xs,ch,VA,vc,ZA,zc,XA,xc⟩ B w2 (hOK1.out.below (hb.mono hB1w)) (Nat.le_trans hB1w hb.size) (HA.out.below (HB0.out.trans ((HB1.out.trans (hb.mono HB1.out.size)).mono (Nat.le_of_lt hlt0))))
      obtain⟨E,hE⟩:∃ E,E=x79 AE ⟨id,ph,vs,zs,no,op,arg,xs,ch,VA,vc,ZA,zc,XA,xc⟩:=⟨_,rfl⟩;rw [<-hE] at CO;have HE:=qh hE;clear hE;rcases hq with q5|⟨q5,q6⟩
      all_goals
       go_wp2_with fail;try rw [HWW.out]
       go_wp2_with fail;refine CC.out.mono ?_;rintro e w2 ⟨rfl,b2⟩;have HB2:=qh (HB1.out.trans (b2.mono HB1.out.size));have hk2:=HK1.out.below b2 hz1;have CO2:=qh (CO.out w2 b2);obtain⟨v0,v1,v2,v3,v4,v5,v6,v7,v8⟩:=Blk.c9 hk2;clear b2 hk2 y0 y1 x21 z0 z1 z2 z3 z4 z5 z6 z7 z8 CO;cases D with
       |true=>
        have HR:Hid (R=9):=qh (by
         have e:=ZK8 (AE:=AE) (r:=⟨id,ph,vs,zs,no,op,arg,xs,ch,VA,vc,ZA,zc,XA,xc⟩) HG3.out HD.out.symm;rw [HRF.out,HF.out,KJ2 HRD.out (by rw [e];decide),e];rfl)
        go_wp2_with fail;go_ret;exact⟨by rw [HR.out];rfl,HB0.out.trans (HB2.out.mono (Nat.le_of_lt hlt0))⟩
       |false=>
        have HN:Hid (Zh1 AE l k ⟨id,ph,vs,zs,no,op,arg,xs,ch,VA,vc,ZA,zc,XA,xc⟩=E):=qh (by rw [HE.out];exact Za2 HG3.out HD.out.symm);go_wp2_with fail;refine CO2.out.mono ?_;rintro e w3 ⟨rfl,b3⟩;have HB3:=qh (HB2.out.trans (b3.mono HB2.out.size));clear b3;by_cases he:E=0
        . have he2:(E !=0)=false:=bne_eq_false_iff_eq.2 he;have HF2:Hid (F=frE AE l (l.drop (k+1)) (k+1)):=qh (by rw [HF.out,jj8 HRD.out (by rw [HN.out];exact he)]);clear he;go_wp2_with fail;go_roundw
          case rel=>exact⟨k+1,by go_num,by omega,HF2,HB3⟩
          case measure=>simp [intOf];omega
        . have he2:(E !=0)=true:=bne_iff_ne.2 he;have HR:Hid (R=E):=qh (by rw [HRF.out,HF.out,KJ2 HRD.out (by rw [HN.out];exact he),HN.out,if_pos he]);clear he;go_wp2_with fail;go_ret;exact⟨by rw [HR.out];rfl,HB0.out.trans (HB3.out.mono (Nat.le_of_lt hlt0))⟩
  . obtain rfl:k=l.length:=(by omega);have HRC:Hid (R=if C=true then 1 else 0):=qh (by rw [HRF.out,HF.out,X81 (Nat.le_refl _),if_neg (by decide)]);clear HF HRF hlk hk;go_wp2_with fail;obtain⟨wm,rfl⟩:∃ wm:World,wm=wr:=⟨_,rfl⟩;go_loopw [71] (λ u wr=>∃ k:Nat,u= .int .i64 (k:Int)/\k<=l.length/\Hid (C=chL l (l.drop k) k)/\Hid (Below W0.heap.size W0 wr)) (λ u _=>l.length-(intOf u).toNat)
    case atStart=>exact⟨0,rfl,Nat.zero_le _,HC0,HB⟩
    case round=>
     clear HC0 HB x2 hltr;obtain⟨k,rfl,hk,HC,HB⟩:=hrel;have x2:=Blk.e2 (HK0.out.below HB.out hlt0);have hltr:w.heap.size<wr.heap.size:=Nat.lt_of_lt_of_le hlt0 HB.out.size;by_cases hlk:k<l.length
     . have k1:(k:Int)<(l.length:Int):=(by omega);have k0:(0:Int)<=(k:Int):=(by omega);have kw:IntKind.i64.wrap ((k:Int)+1)=(k:Int)+1:=IntWalk.i64_in _ (by omega);have hRr:=H.out.below ((HB0.out.trans (HB.out.mono (Nat.le_of_lt hlt0))).mono hBw);have hBr:=hRr.hB;obtain⟨r,hr⟩:∃ r,l[k]? =some r:=⟨_,List.getElem?_eq_getElem hlk⟩;obtain⟨ad,rfl,hb,z0,z1,z2,z3,z4,z5,z6,z7,z8⟩:=hRr.at_ hr;have hbw:ad.block<wr.heap.size:=Nat.lt_of_lt_of_le hb hBr;have HRD:=qh hr;have HRr:=qh hRr
       have HN1:Hid (∀ y,l[k+1]? =some y->wr.cell? ⟨(ad.add ((k+1)*9)).block,(ad.add ((k+1)*9)).off+1,none⟩=some (.int .i64 y.ph)):=qh λ y hy=>by
        obtain⟨ad',e,_,_,h1,_⟩:=hRr.at_ hy;cases e;exact h1
       obtain⟨id,ph,vs,zs,no,op,arg,xs,ch,VA,vc,ZA,zc,XA,xc⟩:=r;dsimp only at z0 z1 z2 z3 z4 z5 z6 z7 z8;clear hRr hr;have hNB:∀ o:Obj,Below W0.heap.size W0 (wr.alloc o).drew:=λ o=>(HB.out.alloc HB.out.size _).drew
       have HNB:=qh hNB;have HNB0:Hid (∀ o:Obj,Below W0.heap.size W0 (wr.alloc o)):=qh λ o=>HB.out.alloc HB.out.size _
       clear hNB;cases ch with
       |false=>
        have HC2:Hid (C=chL l (l.drop (k+1)) (k+1)):=qh (by rw [HC.out,yg2 HRD.out rfl]);go_wp2_with fail;go_quiet (fail)
        go_wp2_with fail;exact⟨⟨k+1,rfl,by omega,HC2,qh (below_drewN (HNB0.out _) _)⟩,by simp [intOf];omega⟩
       |true=>
        by_cases hlast:k+1=l.length
        . have q1:(((k:Int)+1)==(l.length:Int))=true:=beq_iff_eq.2 (by omega)
          have hc:chB l k ⟨id,ph,vs,zs,no,op,arg,xs,true,VA,vc,ZA,zc,XA,xc⟩=true:=by
           unfold chB;rw [List.getElem?_eq_none (by omega)];rfl
          have HR:Hid (R=1):=qh (by rw [HRC.out,HC.out,XW0 HRD.out hc];rfl);clear hlast hc;go_wp2_with fail;go_quiet (fail)
          go_wp2_with fail;go_ret;exact⟨by rw [HR.out];rfl,HB0.out.trans ((below_drewN (HNB0.out _) _).mono (Nat.le_of_lt hlt0))⟩
        . have q1:(((k:Int)+1)==(l.length:Int))=false:=beq_eq_false_iff_ne.2 (by omega);have k2:(k:Int)+1<(l.length:Int):=(by omega);have k3:(0:Int)<=(k:Int)+1:=(by omega);have k4:((k:Int)+1).toNat=k+1:=(by omega);obtain⟨y,hy⟩:∃ y,l[k+1]? =some y:=⟨_,List.getElem?_eq_getElem (by omega)⟩;have z9:=HN1.out y hy;have hbw2:(ad.add ((k+1)*9)).block<wr.heap.size:=by rw [ZE9];exact hbw
          have hc:chB l k ⟨id,ph,vs,zs,no,op,arg,xs,true,VA,vc,ZA,zc,XA,xc⟩= !(y.ph==ph):=by
           unfold chB;rw [hy];rfl
          obtain⟨p2,hp2⟩:∃ p2,y.ph=p2:=⟨_,rfl⟩;rw [hp2] at z9 hc;clear hlast hy hp2 HN1;by_cases hpp:p2=ph
          . have q2:(p2 !=ph)=false:=bne_eq_false_iff_eq.2 hpp;have HC2:Hid (C=chL l (l.drop (k+1)) (k+1)):=qh (by rw [HC.out,yg2 HRD.out (by rw [hc,hpp];simp)]);clear hpp hc;go_wp2_with fail;go_quiet (fail)
            go_wp2_with fail;exact⟨⟨k+1,rfl,by omega,HC2,qh (below_drewN (HNB0.out _) _)⟩,by simp [intOf];omega⟩
          . have q2:(p2 !=ph)=true:=bne_iff_ne.2 hpp;have HR:Hid (R=1):=qh (by rw [HRC.out,HC.out,XW0 HRD.out (by rw [hc];simp [hpp])];rfl);clear hpp hc;go_wp2_with fail;go_quiet (fail)
            go_wp2_with fail;go_ret;exact⟨by rw [HR.out];rfl,HB0.out.trans ((below_drewN (HNB0.out _) _).mono (Nat.le_of_lt hlt0))⟩
     . obtain rfl:k=l.length:=(by omega);have HR:Hid (R=0):=qh (by rw [HRC.out,HC.out,Zo9 (Nat.le_refl _)];rfl);go_wp2_with fail;go_ret;exact⟨by rw [HR.out];rfl,HB0.out.trans (HB.out.mono (Nat.le_of_lt hlt0))⟩
end
section
variable (op:Int) (s:ByteArray) (m:Int) (w:World)
set_option maxRecDepth 100000 in
set_option maxHeartbeats 4000000 in
theorem ZC8 (hs:s.size<=1048576) (h1:1<=op) (h2:op<=12) (hm:w.cell? ⟨4,0,none⟩=some (.int .i64 m)):
 Calls Tryz.prog 72 #[.int .i64 op,.string s] w λ e w'=>e= .returned (.int .i64 (YX5 op s))/\Below w.heap.size w w':=by
 have hop:op=1\/op=2\/(op=7\/op=8\/op=9)\/op=10\/op=11\/op=12\/(op=3\/op=4\/op=5\/op=6):=by omega
 obtain⟨R,hR⟩:∃ R,R=YX5 op s:=⟨_,rfl⟩;rw [<-hR];unfold YX5 at hR;rcases hop with rfl|rfl|hop|rfl|rfl|rfl|hop
 . have CP:Hid (Calls Tryz.prog 102 #[.string s] w (YR7 s w)):=qh (by
    by_cases h:200<s.size
    . exact(Xp8 s w h).mono λ _ _=>kk1
    . exact(QX8 s w (by omega)).mono λ _ _=>kk1)
   unfold YR7 at CP;replace hR:R=rxE s:=hR;rw [<-hR] at CP;clear hR;go_enter Tryz.func72,Tryz.ntmps72;go_wp2_with fail;refine CP.out.mono ?_;rintro e w1 ⟨x0,x1,x2,x3,x4,at_,xA,xl,xc,rfl,hq,b1⟩;have HB1:=qh b1;have HQ:=qh hq;clear b1 hq CP;by_cases h0:R=0
   . have e0:(R !=0)=false:=bne_eq_false_iff_eq.2 h0;have e1:(R==0)=true:=beq_iff_eq.2 h0;obtain⟨m,ht,hm0⟩:=HQ.out h0;obtain⟨hr,q,hq,hz⟩:=y56 (B:=w1.heap.size) ht (λ b hb=>hb.2) hm0;have HRz:=qh h0;clear h0 HQ;have hb2:∀ o:Obj,Below w1.heap.size w1 (w1.alloc o):=λ o=>(Below.refl _ _).alloc (Nat.le_refl _) _
     have CM:=qh λ o:Obj=>Zi7 m (rd1 s).1 q _ w1.heap.size (w1.alloc o) (hr.below (hb2 o)) (hb2 o).size hm0 (hq.below (hb2 o)) hz
     have HOK:=qh (yL0 hq);have HL:=qh (yS1 q hz);have HB2:=qh λ o:Obj=>HB1.out.alloc HB1.out.size o
     clear hr hq hm0 hb2 hz ht;go_wp2_with fail;refine(CM.out _).mono ?_;rintro e w3 ⟨v3,rfl,ho,b3⟩;obtain⟨A3,c3,rfl,hI⟩:=zN0 ho HOK.out;have HB3:=qh ((HB2.out _).trans (b3.mono (HB2.out _).size));have CC:=qh (ko0 (zz8 q) A3 c3 w3.heap.size w3 hI);have hL:Qc7 (zz8 q)=0:=HL.out;rw [hL] at CC;clear ho b3 hI hL;go_wp2_with fail;refine CC.out.mono ?_;rintro e w4 ⟨rfl,b4⟩;have HB4:=qh (HB3.out.trans (b4.mono HB3.out.size));clear b4;go_wp2_with fail;go_ret;exact⟨by rw [HRz.out];rfl,HB4.out⟩
   . have e0:(R !=0)=true:=bne_iff_ne.2 h0;have e1:(R==0)=false:=beq_eq_false_iff_ne.2 h0;clear h0 HQ;go_wp2_with fail;go_ret;exact⟨rfl,HB1.out.alloc HB1.out.size _⟩
 . have CS:=qh (qQ5 s ⟨#[124]⟩ m w hs hm (by decide));replace hR:R=phE s:=hR;have HR:=qh hR;clear hR;go_enter Tryz.func72,Tryz.ntmps72;go_wp2_with fail;refine CS.out.mono ?_;rintro e w1 ⟨rfl,ho,b1⟩;obtain⟨A1,c1,e1,hw⟩:=kB3 ho;rw [e1];have HB1:=qh b1;have CM:=qh ((ZJ7 (pcs s ⟨#[124]⟩) A1 c1 _ w1 hw).mono λ _ _=>Je2);unfold phE at HR;obtain⟨E,hE⟩:∃ E,E=(if ¬yR7 (pcs s ⟨#[124]⟩)=0 then yR7 (pcs s ⟨#[124]⟩) else if 400<(tx (wsL (pcs s ⟨#[124]⟩)) 40).length then 2 else 0):=⟨_,rfl⟩;rw [<-hE] at CM HR;clear ho b1 hw e1 hE;go_wp2_with fail;refine CM.out.mono ?_;rintro e w2 ⟨v2,rfl,b2⟩;have HB2:=qh (HB1.out.trans (b2.mono HB1.out.size));clear b2;go_wp2_with fail;go_ret;exact⟨by rw [HR.out];rfl,HB2.out⟩
 . have CD:=qh (Yj3 s w (by unfold maxLen;omega))
   replace hR:R=qH0 10 9 s:=by
    rcases hop with rfl|rfl|rfl<;>exact hR
   have HR:=qh hR;clear hR;rcases hop with rfl|rfl|rfl
   all_goals
    go_enter Tryz.func72,Tryz.ntmps72;go_wp2_with fail;refine CD.out.mono ?_;rintro e w1 ⟨rfl,rfl⟩;go_wp2_with fail;go_ret;exact⟨by rw [HR.out];rfl,Below.refl _ _⟩
 . have CL:=qh (qX5 s m w hs hm);replace hR:R=(zQ7 s).2:=hR;have HR:=qh hR;clear hR;go_enter Tryz.func72,Tryz.ntmps72;go_wp2_with fail;refine CL.out.mono ?_;rintro e w1 ⟨v1,rfl,_,b1⟩;have HB1:=qh b1;clear b1;go_wp2_with fail;go_ret;exact⟨by rw [HR.out];rfl,HB1.out⟩
 . have CL:=qh ((Jk8 s m w hs hm).mono λ _ _=>j67);replace hR:R=rgE s:=hR;rw [<-hR] at CL;clear hR;go_enter Tryz.func72,Tryz.ntmps72;go_wp2_with fail;refine CL.out.mono ?_;rintro e w1 ⟨v1,rfl,b1⟩;have HB1:=qh b1;clear b1;go_wp2_with fail;go_ret;exact⟨rfl,HB1.out⟩
 . replace hR:R=if s.size=0 then 0 else 1:=hR
   have hE:=isE s;by_cases h0:s.size=0
   focus
    rw [if_pos h0] at hR;rw [dT h0] at hE
   rotate_left
   focus
    rw [if_neg h0] at hR;rw [dF h0] at hE
   all_goals
    have HR:=qh hR;clear hR h0;go_enter Tryz.func72,Tryz.ntmps72;go_wp2_with fail;go_ret;exact⟨by rw [HR.out];rfl,Below.refl _ _⟩
 . replace hR:R=if 200<s.size then 2 else 0:=by
    rcases hop with rfl|rfl|rfl|rfl<;>exact hR
   by_cases h0:200<s.size
   focus
    rw [if_pos h0] at hR;have HR:=qh hR;have d1:(200:Int)<(s.size:Int):=by omega
   rotate_left
   focus
    rw [if_neg h0] at hR;have HR:=qh hR;have d1:¬(200:Int)<(s.size:Int):=by omega
   all_goals
    clear hR h0;rcases hop with rfl|rfl|rfl|rfl
    all_goals
     go_enter Tryz.func72,Tryz.ntmps72;go_wp2_with fail;go_ret;exact⟨by rw [HR.out];rfl,Below.refl _ _⟩
end
theorem XU1 {m:Int} {w:World} (hm:w.cell? ⟨4,0,none⟩=some (.int .i64 m)):ArgOk 72 YX5 w:=λ op s W hb hs h1 h2=>
 ZC8 op s m W hs h1 h2 ((hb.cell (p:=⟨4,0,none⟩) (World.block_lt_of_cell? _ _ hm)).trans hm)
end Go.Proofs.YtngepacmgabmaaaGreatDoor
