/- Variables in memory; Rules in memory; plain: what is wrong wi .. -/
import Derived.Test.YtngepacmgabmaaaGreatDoorGb
namespace Go.Proofs.YtngepacmgabmaaaGreatDoor
open Go.RowKit
set_option linter.unusedVariables false
set_option linter.unusedSimpArgs false
structure Vr where
 (k m:Int) (n:ByteArray)
abbrev zl0 (v:Vr):List Value:= [.int .i64 v.k,.int .i64 v.m,.string v.n]
def JC0 (l:List Vr):List Value:=l.flatMap zl0
theorem yA0 (l:List Vr):(JC0 l).length=l.length*3:=by
 unfold JC0
 induction l with
 |nil=>rfl
 |cons x l ih=>rw [List.flatMap_cons,List.length_append,ih,List.length_cons];simp only [zl0,List.length_cons,List.length_nil];omega
theorem Yq1 {l:List Vr} {k j:Nat} {f:Vr} (h:l[k]? =some f) (hj:j<3):(JC0 l)[k*3+j]? =(zl0 f)[j]? :=by
 obtain⟨hk,rfl⟩:=List.getElem?_eq_some_iff.1 h;have e:l=l.take k++l[k]::l.drop (k+1):=by rw [<-List.drop_eq_getElem_cons hk,List.take_append_drop]
 have hc:JC0 l=JC0 (l.take k)++(zl0 l[k]++JC0 (l.drop (k+1))):=by
  conv=>lhs;rw [e]
  simp only [JC0,List.flatMap_append,List.flatMap_cons]
 have hl:(JC0 (l.take k)).length=k*3:=by rw [yA0,List.length_take,Nat.min_eq_left (by omega)]
 rw [hc,List.getElem?_append_right (by omega),hl,Nat.add_sub_cancel_left,List.getElem?_append_left (by simp;omega)]
def VrR (w:World) (B:Nat) (A:Option Addr) (cap:Nat) (l:List Vr):Prop:=Reads w B 3 A l.length (JC0 l)/\l.length<=cap/\cap<=9223372036854775807/\∀ v∈l,v.n.size<=1048576
theorem VrR.below {w w':World} {B:Nat} {A:Option Addr} {cap:Nat} {l:List Vr} (h:VrR w B A cap l) (hb:Below B w w'):VrR w' B A cap l:=⟨h.1.keep λ _ hp=>hb.cell hp,h.2⟩
theorem VrR.cells {w:World} {B:Nat} {A:Option Addr} {cap:Nat} {l:List Vr} (h:VrR w B A cap l) {k:Nat} (hk:k<l.length):
 ∃ ad,A=some ad/\ad.block<B/\w.cell? (ad.add (k*3))=some (.int .i64 l[k].k)/\w.cell? ⟨(ad.add (k*3)).block,(ad.add (k*3)).off+1,none⟩=some (.int .i64 l[k].m)/\w.cell? ⟨(ad.add (k*3)).block,(ad.add (k*3)).off+2,none⟩=some (.string l[k].n)/\l[k].n.size<=1048576:=by
 obtain⟨ad,e,hb,hc⟩:=h.1.2 (by omega);have h0:=Yq1 (List.getElem?_eq_getElem hk) (j:=0) (by omega);have h1:=Yq1 (List.getElem?_eq_getElem hk) (j:=1) (by omega);have h2:=Yq1 (List.getElem?_eq_getElem hk) (j:=2) (by omega);refine⟨ad,e,hb,hc _ _ h0,?_,?_,h.2.2.2 _ (List.getElem_mem hk)⟩
 . show w.cell? ((ad.add (k*3)).add 1)=_;rw [jx6];exact hc _ _ h1
 . show w.cell? ((ad.add (k*3)).add 2)=_;rw [jx6];exact hc _ _ h2
abbrev jQ1 (a:Int×Int):List Value:= [.int .i64 a.1,.int .i64 a.2]
structure Ru where
 (id ph:Int) (vs:List Vr) (zs:List Int) (no:Bool) (op:Int) (arg:ByteArray) (xs:List (Int×Int)) (ch:Bool)
 (VA:Option Addr) (vc:Nat) (ZA:Option Addr) (zc:Nat) (XA:Option Addr) (xc:Nat)
abbrev Zn7 (r:Ru):List Value:= [.int .i64 r.id,.int .i64 r.ph,.slice r.VA r.vs.length r.vc,.slice r.ZA r.zs.length r.zc,.bool r.no,.int .i64 r.op,.string r.arg,.slice r.XA r.xs.length r.xc,.bool r.ch]
structure RuM (w:World) (B:Nat) (r:Ru):Prop where
 vs:VrR w B r.VA r.vc r.vs
 zs:Reads w B 1 r.ZA r.zs.length (r.zs.map (Value.int .i64))
 xs:Reads w B 2 r.XA r.xs.length (r.xs.flatMap jQ1)
 zl:r.zs.length<=r.zc/\r.zc<=9223372036854775807
 xl:r.xs.length<=r.xc/\r.xc<=9223372036854775807
 ag:r.arg.size<=1048576
structure RuR (w:World) (B:Nat) (A:Option Addr) (cap:Nat) (l:List Ru):Prop where
 rd:Reads w B 9 A l.length (l.flatMap Zn7)
 hB:B<=w.heap.size
 hc:l.length<=cap/\cap<=9223372036854775807
 ok:∀ r∈l,RuM w B r
section
variable {w w':World} {B:Nat} {A:Option Addr} {cap:Nat} {l:List Ru}
theorem RuM.below {r:Ru} (h:RuM w B r) (hb:Below B w w'):RuM w' B r:=⟨h.vs.below hb,h.zs.below hb,h.xs.below hb,h.zl,h.xl,h.ag⟩
theorem RuR.below (h:RuR w B A cap l) (hb:Below B w w'):RuR w' B A cap l:=⟨h.rd.below hb,Nat.le_trans h.hB hb.size,h.hc,λ r hr=>(h.ok r hr).below hb⟩
theorem RuR.kept (h:RuR w B A cap l) (hb:Below w.heap.size w w'):RuR w' B A cap l:=h.below (hb.mono h.hB)
theorem RuR.at_ (h:RuR w B A cap l) {k:Nat} {r:Ru} (hk:l[k]? =some r):∃ ad,A=some ad/\ad.block<B/\w.cell? (ad.add (k*9))=some (.int .i64 r.id)/\w.cell? ⟨(ad.add (k*9)).block,(ad.add (k*9)).off+1,none⟩=some (.int .i64 r.ph)/\w.cell? ⟨(ad.add (k*9)).block,(ad.add (k*9)).off+2,none⟩=some (.slice r.VA r.vs.length r.vc)/\w.cell? ⟨(ad.add (k*9)).block,(ad.add (k*9)).off+3,none⟩=some (.slice r.ZA r.zs.length r.zc)/\w.cell? ⟨(ad.add (k*9)).block,(ad.add (k*9)).off+4,none⟩=some (.bool r.no)/\w.cell? ⟨(ad.add (k*9)).block,(ad.add (k*9)).off+5,none⟩=some (.int .i64 r.op)/\w.cell? ⟨(ad.add (k*9)).block,(ad.add (k*9)).off+6,none⟩=some (.string r.arg)/\w.cell? ⟨(ad.add (k*9)).block,(ad.add (k*9)).off+7,none⟩=some (.slice r.XA r.xs.length r.xc)/\w.cell? ⟨(ad.add (k*9)).block,(ad.add (k*9)).off+8,none⟩=some (.bool r.ch):=by
 obtain⟨ad,e,hb,h0,h1⟩:=Xs0 (cs:=Zn7) (sz:=9) (λ _=>rfl) h.rd hk;exact⟨ad,e,hb,h0 _ rfl,h1 1 _ (by decide) rfl,h1 2 _ (by decide) rfl,h1 3 _ (by decide) rfl,h1 4 _ (by decide) rfl,h1 5 _ (by decide) rfl,h1 6 _ (by decide) rfl,h1 7 _ (by decide) rfl,h1 8 _ (by decide) rfl⟩
theorem Zk6 {A:Option Addr} {xs:List (Int×Int)} (h:Reads w B 2 A xs.length (xs.flatMap jQ1)) {k:Nat} (hk:k<xs.length):∃ ad,A=some ad/\ad.block<B/\w.cell? (ad.add (k*2))=some (.int .i64 xs[k].1)/\w.cell? ⟨(ad.add (k*2)).block,(ad.add (k*2)).off+1,none⟩=some (.int .i64 xs[k].2):=by
 obtain⟨ad,e,hb,h0,h1⟩:=Xs0 (cs:=jQ1) (sz:=2) (λ _=>rfl) h (List.getElem?_eq_getElem hk);exact⟨ad,e,hb,h0 _ rfl,h1 1 _ (by decide) rfl⟩
end
def nmB (b:UInt8):Bool:=(decide (97<=b.toNat/\b.toNat<=122))||(decide (48<=b.toNat/\b.toNat<=57))||b.toNat==45||b.toNat==95
def nmS (s:ByteArray):Bool:=s.data.toList.all nmB&&decide (1<=s.size)&&decide (s.size<=20)
def ofK (k:Int):Bool:=k==6||k==8||k==10
def okV (v:Vr):Bool:=decide (1<=v.k/\v.k<=12)&&decide (0<=v.m/\v.m<=2)&&(decide (v.n.size=0)||(ofK v.k&&nmS v.n))
def okX (x:Int×Int):Bool:=
 (x.1==1&&x.2==0)||(x.1==2&&decide (400<=x.2/\x.2<=599))||(x.1==3&&decide (1<=x.2/\x.2<=1000))||(x.1==4&&decide (1<=x.2/\x.2<=9))||(x.1==5&&x.2==0)
def x79 (AE:Int->ByteArray->Int) (r:Ru):Int:=
 if 8<r.vs.length\/6<r.xs.length then 2 else if r.vs.length=0\/r.xs.length=0 then 1 else if ¬r.vs.all okV=true then 1 else if ¬yU7 r.zs=0 then yU7 r.zs else if r.op<1\/12<r.op then 1 else if ¬AE r.op r.arg=0 then AE r.op r.arg else if r.xs.all okX=true then 0 else 1
def Zh1 (AE:Int->ByteArray->Int) (l:List Ru) (k:Nat) (r:Ru):Int:=
 if r.id<1\/9999<r.id\/¬(r.ph=1\/r.ph=2) then 1 else if (l.take k).any (λ y=>y.id==r.id)=true then 9 else x79 AE r
def frE (AE:Int->ByteArray->Int) (l:List Ru):List Ru->Nat->Int
 | [],_=>0
 |r::m,k=>if ¬Zh1 AE l k r=0 then Zh1 AE l k r else frE AE l m (k+1)
def chB (l:List Ru) (k:Nat) (r:Ru):Bool:=r.ch&&(match l[k+1]? with|none=>true|some y=> !(y.ph==r.ph))
def chL (l:List Ru):List Ru->Nat->Bool
 | [],_=>false
 |r::m,k=>chB l k r||chL l m (k+1)
def QR3 (AE:Int->ByteArray->Int) (most st:Int) (l:List Ru):Int:=
 if most<1\/1000000<most\/st<400\/599<st then 1 else if 40<l.length then 2 else if ¬frE AE l l 0=0 then frE AE l l 0 else if chL l l 0=true then 1 else 0
theorem X81 {AE:Int->ByteArray->Int} {l:List Ru} {k:Nat} (h:l.length<=k):frE AE l (l.drop k) k=0:=by rw [List.drop_of_length_le h];rfl
theorem KJ2 {AE:Int->ByteArray->Int} {l:List Ru} {k:Nat} {r:Ru} (hk:l[k]? =some r) (h:¬Zh1 AE l k r=0):frE AE l (l.drop k) k=Zh1 AE l k r:=by
 obtain⟨hl,rfl⟩:=List.getElem?_eq_some_iff.1 hk;rw [List.drop_eq_getElem_cons hl,frE,if_pos h]
theorem jj8 {AE:Int->ByteArray->Int} {l:List Ru} {k:Nat} {r:Ru} (hk:l[k]? =some r) (h:Zh1 AE l k r=0):frE AE l (l.drop k) k=frE AE l (l.drop (k+1)) (k+1):=by
 obtain⟨hl,rfl⟩:=List.getElem?_eq_some_iff.1 hk;rw [List.drop_eq_getElem_cons hl,frE,if_neg (by rw [h];simp)]
theorem Zo9 {l:List Ru} {k:Nat} (h:l.length<=k):chL l (l.drop k) k=false:=by rw [List.drop_of_length_le h];rfl
theorem XW0 {l:List Ru} {k:Nat} {r:Ru} (hk:l[k]? =some r) (h:chB l k r=true):chL l (l.drop k) k=true:=by
 obtain⟨hl,rfl⟩:=List.getElem?_eq_some_iff.1 hk;rw [List.drop_eq_getElem_cons hl,chL,h];rfl
theorem yg2 {l:List Ru} {k:Nat} {r:Ru} (hk:l[k]? =some r) (h:chB l k r=false):chL l (l.drop k) k=chL l (l.drop (k+1)) (k+1):=by
 obtain⟨hl,rfl⟩:=List.getElem?_eq_some_iff.1 hk;rw [List.drop_eq_getElem_cons hl,chL,h];rfl
theorem isE (s:ByteArray):s.toList.isEmpty=decide (s.size=0):=by
 rw [Bool.eq_iff_iff,List.isEmpty_iff,decide_eq_true_iff,Lib.toList_data];rw [<-qX6];exact List.length_eq_zero_iff.symm
theorem dT {p:Prop} [Decidable p] (h:p):decide p=true:=decide_eq_true h
theorem dF {p:Prop} [Decidable p] (h:¬p):decide p=false:=decide_eq_false h
theorem zT5 (b:UInt8):nmB b=true<->(97<=b.toNat/\b.toNat<=122)\/(48<=b.toNat/\b.toNat<=57)\/b.toNat=45\/b.toNat=95:=by
 unfold nmB;simp only [Bool.or_eq_true,decide_eq_true_eq,beq_iff_eq,or_assoc]
section
variable (s:ByteArray) (w:World)
set_option maxHeartbeats 1000000 in
theorem k90 (hs:s.size<=9223372036854775807):Calls Tryz.prog 99 #[.string s] w λ e w'=>e= .returned (.bool (nmS s))/\w'=w:=by
 obtain⟨R,hR⟩:∃ R,R=nmS s:=⟨_,rfl⟩;have HR:=qh hR;rw [<-hR];clear hR;go_enter Tryz.func99,Tryz.ntmps99;go_wp2_with fail;go_loop [7] (λ u=>∃ k:Nat,u= .int .i64 (k:Int)/\k<=s.size/\Hid (∀ j (hj:j<s.size),j<k->nmB s[j]=true)) (λ u=>s.size-(intOf u).toNat)
 case atStart=>exact⟨0,rfl,Nat.zero_le _,qh λ j hj h=>absurd h (Nat.not_lt_zero _)⟩
 case round=>
  obtain⟨k,rfl,hk,HA⟩:=hrel;by_cases hlk:k<s.size
  . have k1:(k:Int)<(s.size:Int):=(by omega);have k0:(0:Int)<=(k:Int):=(by omega);have kw:IntKind.i64.wrap ((k:Int)+1)=(k:Int)+1:=IntWalk.i64_in _ (by omega);by_cases hok:nmB s[k]=true
    . have HA2:Hid (∀ j (hj:j<s.size),j<k+1->nmB s[j]=true):=qh λ j hj h=>by
       by_cases e:j=k
       . subst e;exact hok
       . exact HA.out j hj (by omega)
      have hcs:=(zT5 _).1 hok;clear hok HA;rcases hcs with h|h|h|h
      focus
       have d1:decide ((s[k].toNat:Int)<97)=false:=dF (by omega);have d2:decide ((122:Int)<(s[k].toNat:Int))=false:=dF (by omega)
      rotate_left
      focus
       have d1:decide ((s[k].toNat:Int)<97)=true:=dT (by omega);have d2:decide ((s[k].toNat:Int)<48)=false:=dF (by omega);have d3:decide ((57:Int)<(s[k].toNat:Int))=false:=dF (by omega)
      rotate_left
      focus
       have d1:decide ((s[k].toNat:Int)<97)=true:=dT (by omega);have d2:decide ((s[k].toNat:Int)<48)=true:=dT (by omega);have d3:((s[k].toNat:Int) !=45)=false:=bne_eq_false_iff_eq.2 (by omega)
      rotate_left
      focus
       have d1:decide ((s[k].toNat:Int)<97)=true:=dT (by omega);have d2:decide ((s[k].toNat:Int)<48)=false:=dF (by omega);have d3:decide ((57:Int)<(s[k].toNat:Int))=true:=dT (by omega);have d4:((s[k].toNat:Int) !=45)=true:=bne_iff_ne.2 (by omega);have d5:((s[k].toNat:Int) !=95)=false:=bne_eq_false_iff_eq.2 (by omega)
      all_goals
       clear h;go_wp2_with fail;go_round
       case rel=>exact⟨k+1,by go_num,by omega,HA2⟩
       case measure=>simp [intOf];omega
    . have HE:Hid (R=false):=qh (by
       rw [HR.out];unfold nmS
       have:s.data.toList.all nmB=false:=by
        rw [Bool.eq_false_iff];intro h;rw [List.all_eq_true] at h;refine hok (h _ ?_);have hl:k<s.data.toList.length:=(by rw [qX6];exact hlk);have:=List.getElem_mem hl;exact this
       rw [this];rfl)
      have hcs:(122<s[k].toNat)\/(57<s[k].toNat/\s[k].toNat<97/\¬s[k].toNat=95)\/(s[k].toNat<48/\¬s[k].toNat=45):=by
       have h1:¬((97<=s[k].toNat/\s[k].toNat<=122)\/(48<=s[k].toNat/\s[k].toNat<=57)\/s[k].toNat=45\/s[k].toNat=95):=λ h=>hok ((zT5 _).2 h)
       omega
      clear hok HA HR;rcases hcs with h|h|h
      focus
       have d1:decide ((s[k].toNat:Int)<97)=false:=dF (by omega);have d2:decide ((122:Int)<(s[k].toNat:Int))=true:=dT (by omega);have d3:decide ((s[k].toNat:Int)<48)=false:=dF (by omega);have d4:decide ((57:Int)<(s[k].toNat:Int))=true:=dT (by omega)
      rotate_left
      focus
       have d1:decide ((s[k].toNat:Int)<97)=true:=dT (by omega);have d3:decide ((s[k].toNat:Int)<48)=false:=dF (by omega);have d4:decide ((57:Int)<(s[k].toNat:Int))=true:=dT (by omega)
      rotate_left
      focus
       have d1:decide ((s[k].toNat:Int)<97)=true:=dT (by omega);have d3:decide ((s[k].toNat:Int)<48)=true:=dT (by omega)
      all_goals
       have d5:((s[k].toNat:Int) !=45)=true:=bne_iff_ne.2 (by omega);have d6:((s[k].toNat:Int) !=95)=true:=bne_iff_ne.2 (by omega);clear h;go_wp2_with fail;go_ret;exact⟨by rw [HE.out];rfl,rfl⟩
  . obtain rfl:k=s.size:=by omega
    have HE:Hid (R=(decide ((1:Int)<=(s.size:Int))&&decide ((s.size:Int)<=20))):=qh (by
     rw [HR.out];unfold nmS
     have h1:s.data.toList.all nmB=true:=by
      rw [List.all_eq_true];intro b hb;obtain⟨i,hi,rfl⟩:=List.mem_iff_getElem.1 hb;have hi2:i<s.size:=(by rw [<-qX6];exact hi);exact HA.out i hi2 hi2
     have e1:decide (1<=s.size)=decide ((1:Int)<=(s.size:Int)):=(by rw [decide_eq_decide];omega);have e2:decide (s.size<=20)=decide ((s.size:Int)<=20):=(by rw [decide_eq_decide];omega);rw [h1,e1,e2];rfl)
    clear HA HR;by_cases h1:(1:Int)<=(s.size:Int)
    . by_cases h2:(s.size:Int)<=20
      focus
       have HE2:Hid (R=true):=qh (by rw [HE.out,dT h1,dT h2];rfl)
      rotate_left
      focus
       have HE2:Hid (R=false):=qh (by rw [HE.out,dT h1,dF h2];rfl)
      all_goals
       clear HE;go_wp2_with fail;go_ret;exact⟨by rw [HE2.out];rfl,rfl⟩
    . have HE2:Hid (R=false):=qh (by rw [HE.out,dF h1];rfl);clear HE;go_wp2_with fail;go_ret;exact⟨by rw [HE2.out];rfl,rfl⟩
end
def e01 (b:Bool):Int:=if b=true then 0 else 1
set_option maxRecDepth 100000 in
set_option maxHeartbeats 4000000 in
theorem kj9 (v:Vr) (w:World) (hs:v.n.size<=1048576):Calls Tryz.prog 70 #[.agg #[.int .i64 v.k,.int .i64 v.m,.string v.n]] w λ e w'=>e= .returned (.int .i64 (e01 (okV v)))/\Below w.heap.size w w':=by
 obtain⟨k,m,n⟩:=v;dsimp only at hs⊢;have CN:=qh λ w'=>k90 n w' (by omega)
 obtain⟨R,hR⟩:∃ R,R=okV ⟨k,m,n⟩:=⟨_,rfl⟩;obtain⟨N,hN⟩:∃ N,N=nmS n:=⟨_,rfl⟩;rw [<-hN] at CN;have hr:R=(decide (1<=k/\k<=12)&&decide (0<=m/\m<=2)&&(decide (n.size=0)||((k==6||k==8||k==10)&&N))):=by rw [hR,hN];rfl
 rw [<-hR];have hE:=isE n;clear hR hN;have hk:(k=6\/k=8\/k=10)\/(k≠6/\k≠8/\k≠10):=by omega
 have fin:∀ (b:Bool),R=b->Hid (R=b):=λ b h=>qh h
 rcases hk with hk|⟨n6,n8,n10⟩
 . have hkk:decide (1<=k/\k<=12)=true:=dT (by omega);have hof:(k==6||k==8||k==10)=true:=(by rcases hk with rfl|rfl|rfl<;>rfl);rw [hkk,hof] at hr;have hm:m<0\/2<m\/(0<=m/\m<=2):=(by omega);rcases hm with hm|hm|hm
   . have HR:Hid (R=false):=qh (by rw [hr,dF (by omega)];rfl);clear hr hE CN;rcases hk with rfl|rfl|rfl
     all_goals
      go_enter Tryz.func70,Tryz.ntmps70;go_wp2_with fail;go_ret;exact⟨by rw [HR.out];rfl,(Below.refl _ _).alloc (Nat.le_refl _) _⟩
   . have HR:Hid (R=false):=qh (by rw [hr,dF (by omega)];rfl);have m0:¬m<0:=(by omega);clear hr hE CN;rcases hk with rfl|rfl|rfl
     all_goals
      go_enter Tryz.func70,Tryz.ntmps70;go_wp2_with fail;go_ret;exact⟨by rw [HR.out];rfl,(Below.refl _ _).alloc (Nat.le_refl _) _⟩
   . have m0:¬m<0:=(by omega);have m2:¬2<m:=(by omega);rw [dT hm] at hr;by_cases h0:n.size=0
     . rw [dT h0] at hE hr;have HR:Hid (R=true):=qh (by rw [hr];rfl);clear hr CN;rcases hk with rfl|rfl|rfl
       all_goals
        go_enter Tryz.func70,Tryz.ntmps70;go_wp2_with fail;go_ret;exact⟨by rw [HR.out];rfl,(Below.refl _ _).alloc (Nat.le_refl _) _⟩
     . rw [dF h0] at hE hr;have HR:Hid (R=N):=qh (by rw [hr];cases N<;>rfl);clear hr;cases N
       all_goals
        rcases hk with rfl|rfl|rfl
        all_goals
         go_enter Tryz.func70,Tryz.ntmps70;go_wp2_with (first|(refine(CN.out _).mono ?_;rintro e w' ⟨rfl,rfl⟩)|fail);go_ret;exact⟨by rw [HR.out];rfl,(Below.refl _ _).alloc (Nat.le_refl _) _⟩
 . have hof:(k==6||k==8||k==10)=false:=(by simp [n6,n8,n10]);rw [hof] at hr;have e6:(k==6)=false:=(by simp [n6]);have e8:(k==8)=false:=(by simp [n8]);have e10:(k==10)=false:=(by simp [n10]);clear CN n6 n8 n10;have hkc:k<1\/12<k\/(1<=k/\k<=12):=(by omega);rcases hkc with hkc|hkc|hkc
   focus
    have HR:Hid (R=false):=qh (by rw [hr,dF (by omega)];rfl);clear hr hE
   rotate_left
   focus
    have HR:Hid (R=false):=qh (by rw [hr,dF (by omega)];rfl);have k1:¬k<1:=(by omega);clear hr hE
   rotate_left
   focus
    have k1:¬k<1:=(by omega);have k2:¬12<k:=(by omega);have hm:m<0\/2<m\/(0<=m/\m<=2):=(by omega);rcases hm with hm|hm|hm
    focus
     have HR:Hid (R=false):=qh (by rw [hr,dF (show ¬(0<=m/\m<=2) by omega)];simp);clear hr hE hkc
    rotate_left
    focus
     have HR:Hid (R=false):=qh (by rw [hr,dF (show ¬(0<=m/\m<=2) by omega)];simp);have m0:¬m<0:=(by omega);clear hr hE hkc
    rotate_left
    focus
     have m0:¬m<0:=(by omega);have m2:¬2<m:=(by omega);rw [dT hkc,dT hm] at hr;have HR:Hid (R=decide (n.size=0)):=qh (by rw [hr];cases decide (n.size=0)<;>rfl);clear hr hkc hm;by_cases h0:n.size=0
     focus
      rw [dT h0] at hE HR
     rotate_left
     focus
      rw [dF h0] at hE HR
     all_goals
      clear h0
    rotate_left 2
   rotate_left 4
   all_goals
    go_enter Tryz.func70,Tryz.ntmps70;go_wp2_with fail;go_ret
   . exact⟨by rw [HR.out];rfl,(Below.refl _ _).alloc (Nat.le_refl _) _⟩
   . exact⟨by rw [HR.out];rfl,(Below.refl _ _).alloc (Nat.le_refl _) _⟩
   . exact⟨by rw [HR.out];rfl,(Below.refl _ _).alloc (Nat.le_refl _) _⟩
   . exact⟨by rw [HR.out];rfl,(Below.refl _ _).alloc (Nat.le_refl _) _⟩
   . exact⟨by rw [HR.out];rfl,(Below.refl _ _).alloc (Nat.le_refl _) _⟩
   . exact⟨by rw [HR.out];rfl,(Below.refl _ _).alloc (Nat.le_refl _) _⟩
end Go.Proofs.YtngepacmgabmaaaGreatDoor
