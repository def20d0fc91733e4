/- Walks: rules.act, rules.first, rules.Che; Walks: rules.one, rules.Check, given wha .. -/
import Derived.Test.YtngepacmgabmaaaGreatDoorGf
namespace Go.Proofs.YtngepacmgabmaaaGreatDoor
open Go.RowKit
set_option linter.unusedVariables false
set_option linter.unusedSimpArgs false
set_option maxRecDepth 100000 in
set_option maxHeartbeats 4000000 in
theorem k59 (x:Int×Int) (w:World):Calls Tryz.prog 74 #[.agg #[.int .i64 x.1,.int .i64 x.2]] w λ e w'=>e= .returned (.int .i64 (e01 (okX x)))/\Below w.heap.size w w':=by
 obtain⟨k,n⟩:=x;dsimp only;obtain⟨R,hR⟩:∃ R,R=okX (k,n):=⟨_,rfl⟩;have hr:R=((k==1&&n==0)||(k==2&&decide (400<=n/\n<=599))||(k==3&&decide (1<=n/\n<=1000))||(k==4&&decide (1<=n/\n<=9))||(k==5&&n==0)):=hR;rw [<-hR];clear hR;have hk:(k=2\/k=3\/k=4\/k=1\/k=5)\/(k≠1/\k≠2/\k≠3/\k≠4/\k≠5):=by omega
 rcases hk with hk|⟨k1,k2,k3,k4,k5⟩
 . have hb:∃ lo hi:Int,((k=2/\lo=400/\hi=599)\/(k=3/\lo=1/\hi=1000)\/(k=4/\lo=1/\hi=9)\/(k=1/\lo=0/\hi=0)\/(k=5/\lo=0/\hi=0)):=by
    rcases hk with h|h|h|h|h
    . exact⟨_,_,.inl ⟨h,rfl,rfl⟩⟩
    . exact⟨_,_,.inr (.inl ⟨h,rfl,rfl⟩)⟩
    . exact⟨_,_,.inr (.inr (.inl ⟨h,rfl,rfl⟩))⟩
    . exact⟨_,_,.inr (.inr (.inr (.inl ⟨h,rfl,rfl⟩)))⟩
    . exact⟨_,_,.inr (.inr (.inr (.inr ⟨h,rfl,rfl⟩)))⟩
   obtain⟨lo,hi,hb⟩:=hb
   have hc:(n<lo/\R=false)\/(¬n<lo/\hi<n/\R=false)\/(¬n<lo/\¬hi<n/\R=true):=by
    by_cases c1:n<lo
    . refine .inl ⟨c1,?_⟩;rcases hb with⟨rfl,rfl,rfl⟩|⟨rfl,rfl,rfl⟩|⟨rfl,rfl,rfl⟩|⟨rfl,rfl,rfl⟩|⟨rfl,rfl,rfl⟩<;>(rw [hr];simp;omega)
    . by_cases c2:hi<n
      focus
       refine .inr (.inl ⟨c1,c2,?_⟩)
      rotate_left
      focus
       refine .inr (.inr ⟨c1,c2,?_⟩)
      all_goals
       rcases hb with⟨rfl,rfl,rfl⟩|⟨rfl,rfl,rfl⟩|⟨rfl,rfl,rfl⟩|⟨rfl,rfl,rfl⟩|⟨rfl,rfl,rfl⟩<;>(rw [hr];simp;omega)
   clear hr hk;rcases hb with⟨rfl,rfl,rfl⟩|⟨rfl,rfl,rfl⟩|⟨rfl,rfl,rfl⟩|⟨rfl,rfl,rfl⟩|⟨rfl,rfl,rfl⟩
   all_goals
    rcases hc with⟨c1,rfl⟩|⟨c1,c2,rfl⟩|⟨c1,c2,rfl⟩
    all_goals
     go_enter Tryz.func74,Tryz.ntmps74;go_wp2_with fail;go_ret;exact⟨rfl,(Below.refl _ _).alloc (Nat.le_refl _) _⟩
 . have HR:Hid (R=false):=qh (by rw [hr];simp [k1,k2,k3,k4,k5]);clear hr;have e1:(k==1)=false:=(by simp [k1]);have e2:(k==2)=false:=(by simp [k2]);have e3:(k==3)=false:=(by simp [k3]);have e4:(k==4)=false:=(by simp [k4]);have e5:(k==5)=false:=(by simp [k5]);clear k1 k2 k3 k4 k5;go_enter Tryz.func74,Tryz.ntmps74;go_wp2_with fail;go_ret;exact⟨by rw [HR.out];rfl,(Below.refl _ _).alloc (Nat.le_refl _) _⟩
set_option maxRecDepth 100000 in
set_option maxHeartbeats 2000000 in
theorem k21 (l:List Vr) (A:Option Addr) (cap B:Nat) (w:World) (h:VrR w B A cap l) (hB:B<=w.heap.size) (hl:l.length<=9000000000):
 Calls Tryz.prog 69 #[.slice A l.length cap,.func (.func 70) #[] #[]] w λ e w'=>e= .returned (.int .i64 (e01 (l.all okV)))/\Below w.heap.size w w':=by
 have H:=qh h;clear h;go_enter Tryz.func69,Tryz.ntmps69;go_wp2_with fail;go_loopw [10] (λ u wr=>∃ k:Nat,u= .int .i64 (k:Int)/\k<=l.length/\Hid (∀ j (hj:j<l.length),j<k->okV l[j]=true)/\Hid (Below w.heap.size w wr)) (λ u _=>l.length-(intOf u).toNat)
 case atStart=>exact⟨0,rfl,Nat.zero_le _,qh λ j hj h=>absurd h (Nat.not_lt_zero _),qh (Below.refl _ _)⟩
 case round=>
  obtain⟨k,rfl,hk,HA,HB⟩:=hrel;by_cases hlk:k<l.length
  . have k1:(k:Int)<(l.length:Int):=(by omega);have k0:(0:Int)<=(k:Int):=(by omega);have kw:IntKind.i64.wrap ((k:Int)+1)=(k:Int)+1:=IntWalk.i64_in _ (by omega);obtain⟨ad,rfl,hab,x0,x1,x2,hz⟩:=(H.out.below (HB.out.mono hB)).cells hlk;have hbw:ad.block<wr.heap.size:=Nat.lt_of_lt_of_le hab (Nat.le_trans hB HB.out.size);obtain⟨v,hv⟩:∃ v,v=l[k]:=⟨_,rfl⟩;rw [<-hv] at x0 x1 x2 hz;have CV:=qh λ W=>kj9 v W (by omega)
    have hb2:∀ o:Obj,Below w.heap.size w (wr.alloc o):=λ o=>HB.out.alloc HB.out.size _
    have HB2:=qh hb2;clear hb2;cases hok:okV v with
    |true=>
     rw [hok] at CV
     have HA2:Hid (∀ j (hj:j<l.length),j<k+1->okV l[j]=true):=qh λ j hj h=>by
      by_cases e:j=k
      . subst e;rw [<-hv];exact hok
      . exact HA.out j hj (by omega)
     clear hok hv HA;go_wp2_with fail;refine(CV.out _).mono ?_;rintro e w1 ⟨rfl,b1⟩;have HB3:=qh ((HB2.out _).trans (b1.mono (HB2.out _).size));clear b1;go_wp2_with fail;go_roundw
     case rel=>exact⟨k+1,by go_num,by omega,HA2,HB3⟩
     case measure=>simp [intOf];omega
    |false=>
     rw [hok] at CV
     have HE:Hid (l.all okV=false):=qh (by
      rw [Bool.eq_false_iff];intro h;rw [List.all_eq_true] at h;have:=h _ (List.getElem_mem hlk);rw [<-hv,hok] at this;cases this)
     clear hok hv HA;go_wp2_with fail;refine(CV.out _).mono ?_;rintro e w1 ⟨rfl,b1⟩;have HB3:=qh ((HB2.out _).trans (b1.mono (HB2.out _).size));clear b1;go_wp2_with fail;go_ret;exact⟨by rw [HE.out];rfl,HB3.out⟩
  . obtain rfl:k=l.length:=by omega
    have HE:Hid (l.all okV=true):=qh (by
     rw [List.all_eq_true];intro v hv;obtain⟨i,hi,rfl⟩:=List.mem_iff_getElem.1 hv;exact HA.out i hi hi)
    clear HA;go_wp2_with fail;go_ret;exact⟨by rw [HE.out];rfl,HB.out⟩
set_option maxRecDepth 100000 in
set_option maxHeartbeats 2000000 in
theorem Q29 (l:List (Int×Int)) (A:Option Addr) (cap B:Nat) (w:World) (h:Reads w B 2 A l.length (l.flatMap jQ1)) (hB:B<=w.heap.size) (hl:l.length<=9000000000):
 Calls Tryz.prog 73 #[.slice A l.length cap,.func (.func 74) #[] #[]] w λ e w'=>e= .returned (.int .i64 (e01 (l.all okX)))/\Below w.heap.size w w':=by
 have H:=qh h;clear h;go_enter Tryz.func73,Tryz.ntmps73;go_wp2_with fail;go_loopw [10] (λ u wr=>∃ k:Nat,u= .int .i64 (k:Int)/\k<=l.length/\Hid (∀ j (hj:j<l.length),j<k->okX l[j]=true)/\Hid (Below w.heap.size w wr)) (λ u _=>l.length-(intOf u).toNat)
 case atStart=>exact⟨0,rfl,Nat.zero_le _,qh λ j hj h=>absurd h (Nat.not_lt_zero _),qh (Below.refl _ _)⟩
 case round=>
  obtain⟨k,rfl,hk,HA,HB⟩:=hrel;by_cases hlk:k<l.length
  . have k1:(k:Int)<(l.length:Int):=(by omega);have k0:(0:Int)<=(k:Int):=(by omega);have kw:IntKind.i64.wrap ((k:Int)+1)=(k:Int)+1:=IntWalk.i64_in _ (by omega);obtain⟨ad,rfl,hab,x0,x1⟩:=Zk6 (H.out.below (HB.out.mono hB)) hlk;have hbw:ad.block<wr.heap.size:=Nat.lt_of_lt_of_le hab (Nat.le_trans hB HB.out.size);obtain⟨v,hv⟩:∃ v,v=l[k]:=⟨_,rfl⟩;rw [<-hv] at x0 x1;have CV:=qh λ W=>k59 v W
    have hb2:∀ o:Obj,Below w.heap.size w (wr.alloc o):=λ o=>HB.out.alloc HB.out.size _
    have HB2:=qh hb2;clear hb2;cases hok:okX v with
    |true=>
     rw [hok] at CV
     have HA2:Hid (∀ j (hj:j<l.length),j<k+1->okX l[j]=true):=qh λ j hj h=>by
      by_cases e:j=k
      . subst e;rw [<-hv];exact hok
      . exact HA.out j hj (by omega)
     clear hok hv HA;go_wp2_with fail;refine(CV.out _).mono ?_;rintro e w1 ⟨rfl,b1⟩;have HB3:=qh ((HB2.out _).trans (b1.mono (HB2.out _).size));clear b1;go_wp2_with fail;go_roundw
     case rel=>exact⟨k+1,by go_num,by omega,HA2,HB3⟩
     case measure=>simp [intOf];omega
    |false=>
     rw [hok] at CV
     have HE:Hid (l.all okX=false):=qh (by
      rw [Bool.eq_false_iff];intro h;rw [List.all_eq_true] at h;have:=h _ (List.getElem_mem hlk);rw [<-hv,hok] at this;cases this)
     clear hok hv HA;go_wp2_with fail;refine(CV.out _).mono ?_;rintro e w1 ⟨rfl,b1⟩;have HB3:=qh ((HB2.out _).trans (b1.mono (HB2.out _).size));clear b1;go_wp2_with fail;go_ret;exact⟨by rw [HE.out];rfl,HB3.out⟩
  . obtain rfl:k=l.length:=by omega
    have HE:Hid (l.all okX=true):=qh (by
     rw [List.all_eq_true];intro v hv;obtain⟨i,hi,rfl⟩:=List.mem_iff_getElem.1 hv;exact HA.out i hi hi)
    clear HA;go_wp2_with fail;go_ret;exact⟨by rw [HE.out];rfl,HB.out⟩
def idB (d:Int) (y:Ru):Bool:=y.id==d
section
variable (d:Int) (g:Nat)
set_option maxHeartbeats 1000000 in
theorem zb9 (r:Ru) (w:World) (h1:w.cell? ⟨g,0,none⟩=some (.int .i64 d)):
 Calls Tryz.prog 35 #[.agg (Zn7 r).toArray,.pointer (some ⟨g,0,none⟩)] w λ e w'=>e= .returned (.bool (idB d r))/\Below w.heap.size w w':=by
 obtain⟨id,ph,vs,zs,no,op,arg,xs,ch,VA,vc,ZA,zc,XA,xc⟩:=r;have hg:=World.block_lt_of_cell? _ _ h1;have hR:idB d ⟨id,ph,vs,zs,no,op,arg,xs,ch,VA,vc,ZA,zc,XA,xc⟩=(id==d):=rfl;rw [hR];clear hR;dsimp only [Zn7];go_enter Tryz.func35,Tryz.ntmps35;go_wp2_with fail;go_ret;exact⟨rfl,(Below.refl _ _).alloc (Nat.le_refl _) _⟩
variable (l:List Ru) (A:Option Addr) (cap B:Nat) (w:World)
def YC0 (d:Int) (l:List Ru) (w:World) (e:Ending) (w':World):Prop:=∃ r:Int,e= .returned (.int .i64 r)/\((r<0/\l.any (idB d)=false)\/(0<=r/\l.any (idB d)=true))/\Below w.heap.size w w'
set_option maxRecDepth 100000 in
set_option maxHeartbeats 2000000 in
theorem Z75 (h:RuR w B A cap l) (h1:w.cell? ⟨g,0,none⟩=some (.int .i64 d)):
 Calls Tryz.prog 68 #[.slice A l.length cap,.func (.func 35) #[] #[.pointer (some ⟨g,0,none⟩)]] w (YC0 d l w):=by
 obtain⟨hl,hl2⟩:=h.hc;have hB:=h.hB;have CE:=qh λ x w' (hb:Below w.heap.size w w')=>zb9 d g x w' ((hb.cell (p:=⟨g,0,none⟩) (World.block_lt_of_cell? _ _ h1)).trans h1)
 have HR:=qh λ w' (hb:Below w.heap.size w w')=>h.kept hb
 clear h h1;go_enter Tryz.func68,Tryz.ntmps68;go_wp2_with fail;go_loopw [8] (λ u wr=>∃ k:Nat,u= .int .i64 (k:Int)/\k<=l.length/\Hid (Below w.heap.size w wr)/\Hid (∀ j (hj:j<l.length),j<k->idB d l[j]=false)) (λ u _=>l.length-(intOf u).toNat)
 case atStart=>exact⟨0,rfl,Nat.zero_le _,qh (Below.refl _ _),qh λ j hj h=>absurd h (Nat.not_lt_zero _)⟩
 case round=>
  obtain⟨k,rfl,hk,HB,HN⟩:=hrel;by_cases hlt:k<l.length
  . have i1:(k:Int)<(l.length:Int):=(by omega);have i0:(0:Int)<=(k:Int):=(by omega);have iw:IntKind.i64.wrap ((k:Int)+1)=(k:Int)+1:=IntWalk.i64_in _ (by omega);obtain⟨r,hr⟩:∃ r,l[k]? =some r:=⟨_,List.getElem?_eq_getElem hlt⟩;obtain⟨ad,rfl,hb,z0,z1,z2,z3,z4,z5,z6,z7,z8⟩:=(HR.out wr HB.out).at_ hr;have hbw:ad.block<wr.heap.size:=(by have:=(HR.out wr HB.out).hB;omega);have hlr:l[k]=r:=(by rw [List.getElem?_eq_getElem hlt] at hr;exact Option.some.inj hr);have C:=CE.out r wr HB.out;cases hv:idB d r with
    |true=>
     rw [hv] at C;have C:=qh C;have HV:Hid (l.any (idB d)=true):=qh (List.any_eq_true.2 ⟨_,List.getElem_mem hlt,by rw [hlr];exact hv⟩);clear hv hr hlr HN;go_wp2_with fail;refine C.out.mono ?_;rintro e w1 ⟨rfl,b1⟩;have HB2:=qh (HB.out.trans (b1.mono HB.out.size));clear b1 C;go_wp2_with fail;go_ret;exact⟨(k:Int),rfl,.inr ⟨by omega,HV.out⟩,HB2.out⟩
    |false=>
     rw [hv] at C;have C:=qh C
     have HN2:Hid (∀ j (hj:j<l.length),j<k+1->idB d l[j]=false):=qh λ j hj h=>by
      by_cases e:j=k
      . subst e;rw [hlr];exact hv
      . exact HN.out j hj (by omega)
     clear hv hr hlr HN;go_wp2_with fail;refine C.out.mono ?_;rintro e w1 ⟨rfl,b1⟩;have HB2:=qh (HB.out.trans (b1.mono HB.out.size));clear b1 C;go_wp2_with fail;go_roundw
     case rel=>exact⟨k+1,by go_num,by omega,HB2,HN2⟩
     case measure=>simp [intOf];omega
  . obtain rfl:k=l.length:=by omega
    have HV:Hid (l.any (idB d)=false):=qh (by
     rw [List.any_eq_false];intro z hz;obtain⟨i,hi,rfl⟩:=List.mem_iff_getElem.1 hz;rw [HN.out i hi hi];decide)
    clear hlt HN;go_wp2_with fail;go_ret;exact⟨-1,rfl,.inl ⟨by omega,HV.out⟩,HB.out⟩
theorem qi1 (h:RuR w B A cap l) (h1:w.cell? ⟨g,0,none⟩=some (.int .i64 d)):
 Calls Tryz.prog 34 #[.slice A l.length cap,.func (.func 35) #[] #[.pointer (some ⟨g,0,none⟩)]] w λ e w'=>e= .returned (.bool (l.any (idB d)))/\Below w.heap.size w w':=by
 have C:=qh (Z75 d g l A cap B w h h1);clear h h1;obtain⟨R,hR⟩:∃ R,R=l.any (idB d):=⟨_,rfl⟩;unfold YC0 at C;rw [<-hR] at C⊢;clear hR;go_enter Tryz.func34,Tryz.ntmps34;go_wp2_with fail;refine C.out.mono ?_;rintro e w1 ⟨r,rfl,hc,b1⟩;have HB:=qh b1;clear b1 C;rcases hc with⟨h1,rfl⟩|⟨h1,rfl⟩
 . have h2:decide ((0:Int)<=r)=false:=dF (by omega);clear h1;go_wp2_with fail;go_ret;exact⟨rfl,HB.out⟩
 . have h2:decide ((0:Int)<=r)=true:=dT h1;go_wp2_with fail;go_ret;exact⟨rfl,HB.out⟩
end
def ArgOk (F:FuncId) (AE:Int->ByteArray->Int) (w:World):Prop:=∀ (op:Int) (s:ByteArray) (W:World),Below w.heap.size w W->s.size<=1048576->1<=op->op<=12->Calls Tryz.prog F #[.int .i64 op,.string s] W λ e w'=>e= .returned (.int .i64 (AE op s))/\Below W.heap.size W w'
theorem ArgOk.below {F:FuncId} {AE:Int->ByteArray->Int} {w w1:World} (h:ArgOk F AE w) (hb:Below w.heap.size w w1):ArgOk F AE w1:=λ op s W h1=>h op s W (hb.trans (h1.mono hb.size))
section
variable (AE:Int->ByteArray->Int) (r:Ru) (B:Nat) (w:World)
set_option maxRecDepth 100000 in
set_option maxHeartbeats 4000000 in
theorem Yk9 (h:RuM w B r) (hB:B<=w.heap.size) (hA:ArgOk 72 AE w):
 Calls Tryz.prog 36 #[.agg (Zn7 r).toArray] w λ e w'=>e= .returned (.int .i64 (x79 AE r))/\Below w.heap.size w w':=by
 have hvl:=h.vs.2.1;have hvc:=h.vs.2.2.1;obtain⟨hzl,hzc⟩:=h.zl;obtain⟨hxl,hxc⟩:=h.xl;have hag:=h.ag;obtain⟨id,ph,vs,zs,no,op,arg,xs,ch,VA,vc,ZA,zc,XA,xc⟩:=r;obtain⟨R,hR⟩:∃ R,R=x79 AE ⟨id,ph,vs,zs,no,op,arg,xs,ch,VA,vc,ZA,zc,XA,xc⟩:=⟨_,rfl⟩;rw [<-hR];unfold x79 at hR;dsimp only at hR hvl hvc hzl hzc hxl hxc hag;have H1:=qh h.vs;have H2:=qh h.zs;have H3:=qh h.xs;dsimp only at H1 H2 H3;have HA:=qh hA;clear h hA;dsimp only [Zn7];have hba:∀ o:Obj,Below w.heap.size w (w.alloc o):=λ o=>(Below.refl _ _).alloc (Nat.le_refl _) _
 have HBA:=qh hba;clear hba;by_cases g1:8<vs.length\/6<xs.length
 . have HR:Hid (R=2):=qh (by rw [hR,if_pos g1]);clear hR;have hc:(8:Int)<(vs.length:Int)\/(¬(8:Int)<(vs.length:Int)/\(6:Int)<(xs.length:Int)):=(by omega);clear g1;rcases hc with c1|⟨c1,c2⟩
   all_goals
    go_enter Tryz.func36,Tryz.ntmps36;go_wp2_with fail;go_ret;exact⟨by rw [HR.out];rfl,HBA.out _⟩
 rw [if_neg g1] at hR;have n1:¬(8:Int)<(vs.length:Int):=by omega
 have n2:¬(6:Int)<(xs.length:Int):=by omega
 have hv8:vs.length<=8:=by omega
 have hx6:xs.length<=6:=by omega
 clear g1;by_cases g2:vs.length=0\/xs.length=0
 . have HR:Hid (R=1):=qh (by rw [hR,if_pos g2]);clear hR
   have hc:((vs.length:Int)==0)=true\/(((vs.length:Int)==0)=false/\((xs.length:Int)==0)=true):=by
    by_cases c:vs.length=0
    . exact .inl (beq_iff_eq.2 (by omega))
    . exact .inr ⟨beq_eq_false_iff_ne.2 (by omega),beq_iff_eq.2 (by omega)⟩
   clear g2;rcases hc with c1|⟨c1,c2⟩
   all_goals
    go_enter Tryz.func36,Tryz.ntmps36;go_wp2_with fail;go_ret;exact⟨by rw [HR.out];rfl,HBA.out _⟩
 rw [if_neg g2] at hR;have n3:((vs.length:Int)==0)=false:=beq_eq_false_iff_ne.2 (by omega);have n4:((xs.length:Int)==0)=false:=beq_eq_false_iff_ne.2 (by omega);clear g2;have HRI:=qh hR;clear hR;go_enter Tryz.func36,Tryz.ntmps36;go_wp2_with fail;obtain⟨W0,hW0⟩:∃ W0,w.alloc (.cells #[.int .i64 id,.int .i64 ph,.slice VA vs.length vc,.slice ZA zs.length zc,.bool no,.int .i64 op,.string arg,.slice XA xs.length xc,.bool ch] 44)=W0:=⟨_,rfl⟩;have hk0:Blk W0 w.heap.size 44 #[.int .i64 id,.int .i64 ph,.slice VA vs.length vc,.slice ZA zs.length zc,.bool no,.int .i64 op,.string arg,.slice XA xs.length xc,.bool ch]:=by rw [<-hW0];exact Blk.new _ _ _
 have HB0:Hid (Below w.heap.size w W0):=qh (by rw [<-hW0];exact HBA.out _);rw [hW0];clear hW0;have HK0:=qh hk0;clear hk0;refine(k21 vs VA vc B W0 (H1.out.below (HB0.out.mono hB)) (Nat.le_trans hB HB0.out.size) (by omega)).mono ?_;rintro e w1 ⟨rfl,b1⟩;have HB1:=qh (HB0.out.trans (b1.mono HB0.out.size));have hk1:=HK0.out.below b1 (Blk.lt HK0.out);have HK1:=qh hk1;have k13:=Blk.e3 hk1;clear b1 hk1;by_cases g3:vs.all okV=true
 . have hv:(e01 (vs.all okV) !=0)=false:=(by rw [g3];rfl);have HRI2:=qh (show R=if ¬yU7 zs=0 then yU7 zs else if op<1\/12<op then 1 else if ¬AE op arg=0 then AE op arg else if xs.all okX=true then 0 else 1 from by rw [HRI.out,if_neg (by simp [g3])]);clear HRI g3;go_wp2_with fail;refine(qA0 zs ZA zc w1 ((H2.out.below (HB1.out.mono hB)).more (Nat.le_trans hB HB1.out.size)) (by omega)).mono ?_;rintro e w2 ⟨rfl,rfl⟩;by_cases g4:yU7 zs=0
   . have hp:(yU7 zs !=0)=false:=(by rw [g4];rfl);obtain⟨_,_,_,_,_,k15,k16⟩:=Blk.c7 HK1.out;have HRI3:=qh (show R=if op<1\/12<op then 1 else if ¬AE op arg=0 then AE op arg else if xs.all okX=true then 0 else 1 from by rw [HRI2.out,if_neg (by simp [g4])]);clear HRI2 g4;by_cases g5:op<1\/12<op
     . have HR:Hid (R=1):=qh (by rw [HRI3.out,if_pos g5]);have hc:op<1\/(¬op<1/\12<op):=(by omega);clear HRI3 g5;rcases hc with c1|⟨c1,c2⟩
       all_goals
        go_wp2_with fail;go_ret;exact⟨by rw [HR.out];rfl,HB1.out⟩
     . have o1:¬op<1:=(by omega);have o2:¬12<op:=(by omega);have HRI4:=qh (show R=if ¬AE op arg=0 then AE op arg else if xs.all okX=true then 0 else 1 from by rw [HRI3.out,if_neg g5]);clear HRI3 g5;go_wp2_with fail;refine(HA.out op arg w1 HB1.out hag (by omega) (by omega)).mono ?_;rintro e w3 ⟨rfl,b3⟩;have HB3:=qh (HB1.out.trans (b3.mono HB1.out.size));have k37:=Blk.e7 (HK1.out.below b3 (Blk.lt HK1.out));clear b3;by_cases g6:AE op arg=0
       . have ha:(AE op arg !=0)=false:=(by rw [g6];rfl);have HR:Hid (R=e01 (xs.all okX)):=qh (by rw [HRI4.out,if_neg (by simp [g6])];rfl);clear HRI4 g6;go_wp2_with fail;refine(Q29 xs XA xc B w3 (H3.out.below (HB3.out.mono hB)) (Nat.le_trans hB HB3.out.size) (by omega)).mono ?_;rintro e w4 ⟨rfl,b4⟩;have HB4:=qh (HB3.out.trans (b4.mono HB3.out.size));clear b4;go_wp2_with fail;go_ret;exact⟨by rw [HR.out];rfl,HB4.out⟩
       . have ha:(AE op arg !=0)=true:=bne_iff_ne.2 g6;have HR:Hid (R=AE op arg):=qh (by rw [HRI4.out,if_pos g6]);clear HRI4 g6;go_wp2_with fail;go_ret;exact⟨by rw [HR.out];rfl,HB3.out⟩
   . have hp:(yU7 zs !=0)=true:=bne_iff_ne.2 g4;have HR:Hid (R=yU7 zs):=qh (by rw [HRI2.out,if_pos g4]);clear HRI2 g4;go_wp2_with fail;go_ret;exact⟨by rw [HR.out];rfl,HB1.out⟩
 . have HR:Hid (R=1):=qh (by rw [HRI.out,if_pos g3]);have hf:=Bool.eq_false_iff.2 g3;rw [hf];clear HRI g3 hf;go_wp2_with fail;go_ret;exact⟨by rw [HR.out];rfl,HB1.out⟩
end
end Go.Proofs.YtngepacmgabmaaaGreatDoor
