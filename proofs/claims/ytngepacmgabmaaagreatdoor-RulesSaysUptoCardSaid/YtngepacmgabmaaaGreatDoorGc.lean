/- Rules in memory; plain: what is wrong wi; The bulk of what came in .. -/
import Derived.Test.YtngepacmgabmaaaGreatDoorGb
import Derived.Test.YtngepacmgabmaaaGreatDoorProg
import Derived.ChangeArms
import Derived.Laws.IdiomArrays
import Derived.Lib.SmallJoins
import Derived.WideShapes
namespace Go.Proofs.YtngepacmgabmaaaGreatDoor
open Go.RowKit
set_option linter.unusedVariables false
set_option linter.unusedSimpArgs false
abbrev jQ1 (a:Int×Int):List Value:= [.int .i64 a.1,.int .i64 a.2]
structure Ru where
 (id ph:Int) (vs:List Vr) (zs:List Int) (no:Bool) (op:Int) (arg:ByteArray) (xs:List (Int×Int)) (ch:Bool)
 (VA:Option Addr) (vc:Nat) (ZA:Option Addr) (zc:Nat) (XA:Option Addr) (xc:Nat)
abbrev Zn7 (r:Ru):List Value:= [.int .i64 r.id,.int .i64 r.ph,.slice r.VA r.vs.length r.vc,.slice r.ZA r.zs.length r.zc,.bool r.no,.int .i64 r.op,.string r.arg,.slice r.XA r.xs.length r.xc,.bool r.ch]
structure RuM (w:World) (B:Nat) (r:Ru):Prop where
 vs:VrR w B r.VA r.vc r.vs
 zs:Reads w B 1 r.ZA r.zs.length (r.zs.map (Value.int .i64))
 xs:Reads w B 2 r.XA r.xs.length (r.xs.flatMap jQ1)
 zl:r.zs.length<=r.zc/\r.zc<=9223372036854775807
 xl:r.xs.length<=r.xc/\r.xc<=9223372036854775807
 ag:r.arg.size<=1048576
structure RuR (w:World) (B:Nat) (A:Option Addr) (cap:Nat) (l:List Ru):Prop where
 rd:Reads w B 9 A l.length (l.flatMap Zn7)
 hB:B<=w.heap.size
 hc:l.length<=cap/\cap<=9223372036854775807
 ok:∀ r∈l,RuM w B r
section
variable {w w':World} {B:Nat} {A:Option Addr} {cap:Nat} {l:List Ru}
theorem RuM.below {r:Ru} (h:RuM w B r) (hb:Below B w w'):RuM w' B r:=⟨h.vs.below hb,h.zs.below hb,h.xs.below hb,h.zl,h.xl,h.ag⟩
theorem RuR.below (h:RuR w B A cap l) (hb:Below B w w'):RuR w' B A cap l:=⟨h.rd.below hb,Nat.le_trans h.hB hb.size,h.hc,λ r hr=>(h.ok r hr).below hb⟩
theorem RuR.kept (h:RuR w B A cap l) (hb:Below w.heap.size w w'):RuR w' B A cap l:=h.below (hb.mono h.hB)
theorem RuR.at_ (h:RuR w B A cap l) {k:Nat} {r:Ru} (hk:l[k]? =some r):∃ ad,A=some ad/\ad.block<B/\w.cell? (ad.add (k*9))=some (.int .i64 r.id)/\w.cell? ⟨(ad.add (k*9)).block,(ad.add (k*9)).off+1,none⟩=some (.int .i64 r.ph)/\w.cell? ⟨(ad.add (k*9)).block,(ad.add (k*9)).off+2,none⟩=some (.slice r.VA r.vs.length r.vc)/\w.cell? ⟨(ad.add (k*9)).block,(ad.add (k*9)).off+3,none⟩=some (.slice r.ZA r.zs.length r.zc)/\w.cell? ⟨(ad.add (k*9)).block,(ad.add (k*9)).off+4,none⟩=some (.bool r.no)/\w.cell? ⟨(ad.add (k*9)).block,(ad.add (k*9)).off+5,none⟩=some (.int .i64 r.op)/\w.cell? ⟨(ad.add (k*9)).block,(ad.add (k*9)).off+6,none⟩=some (.string r.arg)/\w.cell? ⟨(ad.add (k*9)).block,(ad.add (k*9)).off+7,none⟩=some (.slice r.XA r.xs.length r.xc)/\w.cell? ⟨(ad.add (k*9)).block,(ad.add (k*9)).off+8,none⟩=some (.bool r.ch):=by
 obtain⟨ad,e,hb,h0,h1⟩:=Xs0 (cs:=Zn7) (sz:=9) (λ _=>rfl) h.rd hk;exact⟨ad,e,hb,h0 _ rfl,h1 1 _ (by decide) rfl,h1 2 _ (by decide) rfl,h1 3 _ (by decide) rfl,h1 4 _ (by decide) rfl,h1 5 _ (by decide) rfl,h1 6 _ (by decide) rfl,h1 7 _ (by decide) rfl,h1 8 _ (by decide) rfl⟩
theorem Zk6 {A:Option Addr} {xs:List (Int×Int)} (h:Reads w B 2 A xs.length (xs.flatMap jQ1)) {k:Nat} (hk:k<xs.length):∃ ad,A=some ad/\ad.block<B/\w.cell? (ad.add (k*2))=some (.int .i64 xs[k].1)/\w.cell? ⟨(ad.add (k*2)).block,(ad.add (k*2)).off+1,none⟩=some (.int .i64 xs[k].2):=by
 obtain⟨ad,e,hb,h0,h1⟩:=Xs0 (cs:=jQ1) (sz:=2) (λ _=>rfl) h (List.getElem?_eq_getElem hk);exact⟨ad,e,hb,h0 _ rfl,h1 1 _ (by decide) rfl⟩
end
def nmB (b:UInt8):Bool:=(decide (97<=b.toNat/\b.toNat<=122))||(decide (48<=b.toNat/\b.toNat<=57))||b.toNat==45||b.toNat==95
def nmS (s:ByteArray):Bool:=s.data.toList.all nmB&&decide (1<=s.size)&&decide (s.size<=20)
def ofK (k:Int):Bool:=k==6||k==8||k==10
def okV (v:Vr):Bool:=decide (1<=v.k/\v.k<=12)&&decide (0<=v.m/\v.m<=2)&&(decide (v.n.size=0)||(ofK v.k&&nmS v.n))
def okX (x:Int×Int):Bool:=
 (x.1==1&&x.2==0)||(x.1==2&&decide (400<=x.2/\x.2<=599))||(x.1==3&&decide (1<=x.2/\x.2<=1000))||(x.1==4&&decide (1<=x.2/\x.2<=9))||(x.1==5&&x.2==0)
def x79 (AE:Int->ByteArray->Int) (r:Ru):Int:=
 if 8<r.vs.length\/6<r.xs.length then 2 else if r.vs.length=0\/r.xs.length=0 then 1 else if ¬r.vs.all okV=true then 1 else if ¬yU7 r.zs=0 then yU7 r.zs else if r.op<1\/12<r.op then 1 else if ¬AE r.op r.arg=0 then AE r.op r.arg else if r.xs.all okX=true then 0 else 1
def Zh1 (AE:Int->ByteArray->Int) (l:List Ru) (k:Nat) (r:Ru):Int:=
 if r.id<1\/9999<r.id\/¬(r.ph=1\/r.ph=2) then 1 else if (l.take k).any (λ y=>y.id==r.id)=true then 9 else x79 AE r
def frE (AE:Int->ByteArray->Int) (l:List Ru):List Ru->Nat->Int
 | [],_=>0
 |r::m,k=>if ¬Zh1 AE l k r=0 then Zh1 AE l k r else frE AE l m (k+1)
def chB (l:List Ru) (k:Nat) (r:Ru):Bool:=r.ch&&(match l[k+1]? with|none=>true|some y=> !(y.ph==r.ph))
def chL (l:List Ru):List Ru->Nat->Bool
 | [],_=>false
 |r::m,k=>chB l k r||chL l m (k+1)
def QR3 (AE:Int->ByteArray->Int) (most st:Int) (l:List Ru):Int:=
 if most<1\/1000000<most\/st<400\/599<st then 1 else if 40<l.length then 2 else if ¬frE AE l l 0=0 then frE AE l l 0 else if chL l l 0=true then 1 else 0
theorem X81 {AE:Int->ByteArray->Int} {l:List Ru} {k:Nat} (h:l.length<=k):frE AE l (l.drop k) k=0:=by rw [List.drop_of_length_le h];rfl
theorem KJ2 {AE:Int->ByteArray->Int} {l:List Ru} {k:Nat} {r:Ru} (hk:l[k]? =some r) (h:¬Zh1 AE l k r=0):frE AE l (l.drop k) k=Zh1 AE l k r:=by
 obtain⟨hl,rfl⟩:=List.getElem?_eq_some_iff.1 hk;rw [List.drop_eq_getElem_cons hl,frE,if_pos h]
theorem jj8 {AE:Int->ByteArray->Int} {l:List Ru} {k:Nat} {r:Ru} (hk:l[k]? =some r) (h:Zh1 AE l k r=0):frE AE l (l.drop k) k=frE AE l (l.drop (k+1)) (k+1):=by
 obtain⟨hl,rfl⟩:=List.getElem?_eq_some_iff.1 hk;rw [List.drop_eq_getElem_cons hl,frE,if_neg (by rw [h];simp)]
theorem Zo9 {l:List Ru} {k:Nat} (h:l.length<=k):chL l (l.drop k) k=false:=by rw [List.drop_of_length_le h];rfl
theorem XW0 {l:List Ru} {k:Nat} {r:Ru} (hk:l[k]? =some r) (h:chB l k r=true):chL l (l.drop k) k=true:=by
 obtain⟨hl,rfl⟩:=List.getElem?_eq_some_iff.1 hk;rw [List.drop_eq_getElem_cons hl,chL,h];rfl
theorem yg2 {l:List Ru} {k:Nat} {r:Ru} (hk:l[k]? =some r) (h:chB l k r=false):chL l (l.drop k) k=chL l (l.drop (k+1)) (k+1):=by
 obtain⟨hl,rfl⟩:=List.getElem?_eq_some_iff.1 hk;rw [List.drop_eq_getElem_cons hl,chL,h];rfl
theorem j40 {H:Type} (d:DataW H):1<=Rows.uptoBulk d:=by
 cases d with
 |lit l=>cases l<;>simp [Rows.uptoBulk]
 |nil=>simp [Rows.uptoBulk]
 |ptr d=>simp [Rows.uptoBulk]
 |slice e s=>simp [Rows.uptoBulk]
 |agg p=>simp [Rows.uptoBulk]
 |iface t d=>simp [Rows.uptoBulk]
 |map e=>simp [Rows.uptoBulk]
 |held h=>simp [Rows.uptoBulk]
theorem Qk0 {H:Type}:∀ l:List (DataW H),l.length<=Rows.uptoBulkAll l
 | []=>by simp [Rows.uptoBulkAll]
 |d::l=>by
  have h1:=Qk0 l;have h2:=j40 d;simp only [Rows.uptoBulkAll,List.length_cons];omega
theorem kQ9 {H:Type}:∀ {l:List (DataW H)} {d:DataW H},d∈l->Rows.uptoBulk d<=Rows.uptoBulkAll l
 |d::l,x,h=>by
  simp only [Rows.uptoBulkAll];rcases List.mem_cons.1 h with rfl|h
  . omega
  . have:=kQ9 h;omega

theorem xr9 {α β:Type} {n:Nat} {P:Nat->β->α->Prop} (h:∀ i,i<n->∃ b a,P i b a):∃ l:List α,l.length=n/\∀ i (hi:i<l.length),∃ b,P i b l[i]:=by
 induction n with
 |zero=>exact⟨[],rfl,λ i hi=>absurd hi (by simp)⟩
 |succ n ih=>
  obtain⟨l,hl,hP⟩:=ih λ i hi=>h i (by omega)
  obtain⟨b,a,hb⟩:=h n (by omega);refine⟨l++ [a],by simp [hl],λ i hi=> ?_⟩;by_cases hin:i<l.length
  . rw [List.getElem_append_left hin];exact hP i hin
  . obtain rfl:i=n:=(by simp at hi;omega);exact⟨b,by rw [List.getElem_append_right (by omega)];simpa [hl] using hb⟩
section
open Go.ChangeShapes Go.WideShapes Go.RowKit Go.Joins

end
section
open Go.ChangeShapes Go.WideShapes Go.ChangeAt Go.RowKit
theorem jl3 {H:Type} {enc:TypeId×Value->H} {W:World} {fuel:Nat} {cs:List Value} {x:DataW H×List MemPlace}
 (h:DataW.trod enc Tryz.prog W 0 (λ _=>true) true fuel 41 cs=some x):
 ∃ (A:Option Addr) (cap:Nat) (zs:List Int),cs= [.slice A zs.length cap]/\zs.length<=cap/\cap<=maxLen/\Reads W W.heap.size 1 A zs.length (zs.map (Value.int .i64))/\∀ n∈zs,(Lit.int .i64 n).wf=true:=by
 rcases open_ints Tryz.underlying41 Tryz.underlying3 (by kernel_rfl) h with⟨rfl,_⟩|⟨a,len,cap,zs,rfl,_,hl,hm,hz,_,hc,hw⟩
 . exact⟨none,0,[],rfl,Nat.le_refl _,by unfold maxLen;omega,Reads.none_,by simp⟩
 . have hzl:zs.length=cap:=(by simpa using hz);have ht:(zs.take len).length=len:=(by rw [List.length_take];omega);refine⟨some a,cap,zs.take len,by rw [ht],by omega,hm,⟨by simp,λ hn=>⟨a,rfl,World.block_lt_of_cell? _ _ (hc 0 (by omega)),λ j u hu=> ?_⟩⟩,λ n hn=>hw n (List.mem_of_mem_take hn)⟩
   have hj:j<len:=by
    rcases Nat.lt_or_ge j len with h1|h1
    . exact h1
    . rw [List.getElem?_eq_none (by rw [List.length_map];omega)] at hu;cases hu
   rw [hc j (by omega),<-hu,List.getElem?_map,List.getElem?_take,if_pos hj];rw [List.getElem?_eq_getElem (by omega),Option.map_some,List.getD,List.getElem?_eq_getElem (by omega)];rfl
end
section
open Go.ChangeShapes Go.WideShapes Go.RowKit Go.Joins
theorem Ka4 {T t:TypeId} {sz:Nat} {α:Type} {cs:α->List Value} {Q:α->Prop} (hT:Tryz.prog.underlying T=some (.slice t)) (kk:Tryz.prog.cellsOf t=sz) (h0:0<sz) (hcs:∀ a,(cs a).length=sz)
 {H:Type} {enc:TypeId×Value->H} {W:World} {n:Nat} {c:Value} {x:DataW H×List MemPlace}
 (one:∀ m cells y,DataW.trod enc Tryz.prog W 0 (λ _=>true) true m t cells=some y->Rows.uptoBulk y.1<=1048576->∃ f,cells=cs f/\Q f)
 (h:DataW.trod enc Tryz.prog W 0 (λ _=>true) true n T [c]=some x) (hb:Rows.uptoBulk x.1<=1048576):
 ∃ (A:Option Addr) (cap:Nat) (fs:List α),c= .slice A fs.length cap/\Reads W W.heap.size sz A fs.length (fs.flatMap cs)/\fs.length<=cap/\cap<=9223372036854775807/\fs.length<=1048576/\∀ f∈fs,Q f:=by
 rcases DataW.trod_slice hT h with⟨e5,_⟩|⟨a,len,cap,elems,rest,k',rfl,e5,hx,_,hl,hm,hlen,hel,hsp,hns⟩
 . simp only [List.cons.injEq,and_true] at e5;subst e5;exact⟨none,0,[],rfl,Reads.none_,Nat.le_refl _,by omega,by simp,by simp⟩
 . simp only [List.cons.injEq,and_true] at e5;subst e5;rw [kk] at hel;rw [hx] at hb;simp only [Rows.uptoBulk] at hb
   have hone:∀ i,i<len->∃ cs' f,W.cells? 0 (a.add (i*sz)) sz=some cs'/\cs'=cs f/\Q f:=by
    intro i hi;have h1:(W.cells? 0 (a.add (i*sz)) sz).bind (DataW.trod enc Tryz.prog W 0 (λ _=>true) true k' t)=elems[i]? :=hel i hi;rw [List.getElem?_eq_getElem (by omega)] at h1;obtain⟨cs',h2,h3⟩:=Option.bind_eq_some_iff.1 h1;have:=kQ9 (l:=elems.map (·.1)) (d:=(elems[i]'(by omega)).1) (List.mem_map.2 ⟨_,List.getElem_mem _,rfl⟩);obtain⟨f,hf,hz⟩:=one _ _ _ h3 (by omega);exact⟨cs',f,h2,hf,hz⟩
   obtain⟨fs,hfs,hall⟩:=xr9 hone;have hbl:=Qk0 (elems.map (·.1));rw [List.length_map] at hbl;unfold maxLen at hm;refine⟨some a,cap,fs,by rw [hfs],⟨by rw [KK8 hcs],λ h0'=> ?_⟩,by omega,by omega,by omega,λ f hf=> ?_⟩
   . obtain⟨cs',_,h2,_⟩:=hone 0 (by omega);obtain⟨_,h3,h4⟩:=World.cells?_some h2;refine⟨a,rfl,?_,λ j u hu=> ?_⟩
     . have h5:=h4 0 h0;rw [List.getElem?_eq_getElem (by omega)] at h5;have:=World.block_lt_of_cell? _ _ h5;rwa [ZE9,ZE9] at this
     . obtain⟨hj,_⟩:=List.getElem?_eq_some_iff.1 hu;rw [KK8 hcs] at hj;have hi:j/sz<fs.length:=(Nat.div_lt_iff_lt_mul h0).2 hj;have hm:j%sz<sz:=Nat.mod_lt _ h0;obtain⟨cs',g2,g3,_⟩:=hall (j/sz) hi;obtain⟨_,g4,g5⟩:=World.cells?_some g2;have hget:=xW9 hcs (List.getElem?_eq_getElem hi) hm;rw [Nat.div_add_mod' j sz] at hget;rw [hu,<-g3] at hget;have:=g5 (j%sz) hm;rw [jx6,Nat.div_add_mod' j sz] at this;rw [this,<-hget]
   . obtain⟨i,hi,rfl⟩:=List.mem_iff_getElem.1 hf;obtain⟨_,_,_,hz⟩:=hall i hi;exact hz
section
variable {H:Type} {enc:TypeId×Value->H} {P:Program} {w:World} {base:Nat} {spare:Nat->Bool} {held:Bool} {t:TypeId} {fs:Array Field} {fuel:Nat} {cs:List Value} {x:DataW H×List MemPlace}
theorem X44 (hs:P.underlying t=some (.struct fs)) (hC:P.cellsOf t=fs.size) (ho:∀ (i:Nat) (f:Field),fs[i]? =some f->f.offset=i/\P.cellsOf f.type=1)
 (h:DataW.trod enc P w base spare held fuel t cs=some x):
 ∃ (xs:List (DataW H×List MemPlace)) (n:Nat),x.1= .agg (xs.map (·.1))/\cs.length=fs.size/\xs.length=fs.size/\∀ (i:Nat) (f:Field) c y,fs[i]? =some f->cs[i]? =some c->xs[i]? =some y->DataW.trod enc P w base spare held n f.type [c]=some y:=by
 obtain⟨xs,n,rfl,hx,hl,hxs,hg⟩:=DataW.trod_struct hs h;refine⟨xs,n,by rw [hx],hl.trans hC,hxs,λ i f c y hf hc hy=> ?_⟩;obtain⟨o,k⟩:=ho i f hf;have h1:=hg i f hf;rw [o,k,hy] at h1;obtain⟨hi,rfl⟩:=List.getElem?_eq_some_iff.1 hc;rw [List.drop_eq_getElem_cons hi] at h1;exact h1
end
theorem je8 {fs:Array Field} {P:Program} (h:((List.range fs.size).zip fs.toList).all (λ p=>p.2.offset==p.1&&P.cellsOf p.2.type==1)=true):∀ (i:Nat) (f:Field),fs[i]? =some f->f.offset=i/\P.cellsOf f.type=1:=by
 intro i f hf;rw [List.all_eq_true] at h;obtain⟨hi,rfl⟩:=Array.getElem?_eq_some_iff.1 hf
 have:=h (i,fs[i]) (by
  rw [List.mem_iff_getElem];exact⟨i,by simpa using hi,by simp⟩)
 simpa using this
theorem ln2' {α:Type} {l:List α} (h:l.length=2):∃ a b,l= [a,b]:=by
 match l,h with
 | [a,b],_=>exact⟨a,b,rfl⟩
theorem ln9 {α:Type} {l:List α} (h:l.length=9):∃ a b c d e f g i j,l= [a,b,c,d,e,f,g,i,j]:=by
 match l,h with
 | [a,b,c,d,e,f,g,i,j],_=>exact⟨a,b,c,d,e,f,g,i,j,rfl⟩
theorem ln3' {α:Type} {l:List α} (h:l.length=3):∃ a b c,l= [a,b,c]:=by
 match l,h with
 | [a,b,c],_=>exact⟨a,b,c,rfl⟩
section
variable {H:Type} {enc:TypeId×Value->H} {W:World} {n:Nat} {cs:List Value} {x:DataW H×List MemPlace}
theorem Ya0 (h:DataW.trod enc Tryz.prog W 0 (λ _=>true) true n 55 cs=some x):∃ f:Int×Int,cs=jQ1 f:=by
 obtain⟨xs,m,hx,hl,hxs,hg⟩:=X44 Tryz.underlying55 (by kernel_rfl) (je8 (by kernel_rfl)) h;obtain⟨c0,c1,rfl⟩:=ln2' hl;obtain⟨y0,y1,rfl⟩:=ln2' hxs;obtain⟨a,e0,_⟩:=DataW.trod_int Tryz.underlying3 (hg 0 _ c0 y0 rfl rfl rfl);obtain⟨b,e1,_⟩:=DataW.trod_int Tryz.underlying3 (hg 1 _ c1 y1 rfl rfl rfl);simp only [List.cons.injEq,and_true] at e0 e1;subst e0;subst e1;exact⟨(a,b),rfl⟩
theorem k79 (h:DataW.trod enc Tryz.prog W 0 (λ _=>true) true n 51 cs=some x) (hb:Rows.uptoBulk x.1<=1048576):∃ f:Vr,cs=zl0 f/\f.n.size<=1048576:=by
 obtain⟨xs,m,hx,hl,hxs,hg⟩:=X44 Tryz.underlying51 (by kernel_rfl) (je8 (by kernel_rfl)) h;obtain⟨c0,c1,c2,rfl⟩:=ln3' hl;obtain⟨y0,y1,y2,rfl⟩:=ln3' hxs;obtain⟨a,e0,_⟩:=DataW.trod_int Tryz.underlying3 (hg 0 _ c0 y0 rfl rfl rfl);obtain⟨b,e1,_⟩:=DataW.trod_int Tryz.underlying3 (hg 1 _ c1 y1 rfl rfl rfl);obtain⟨s,e2,z2,_⟩:=DataW.trod_string Tryz.underlying9 (hg 2 _ c2 y2 rfl rfl rfl);simp only [List.cons.injEq,and_true] at e0 e1 e2;subst e0;subst e1;subst e2;refine⟨⟨a,b,s⟩,rfl,?_⟩;rw [hx] at hb;simp only [List.map_cons,List.map_nil,Rows.uptoBulk,Rows.uptoBulkAll,z2,qX6] at hb;show s.size<=1048576;omega
set_option maxRecDepth 100000 in
theorem ZY3 (h:DataW.trod enc Tryz.prog W 0 (λ _=>true) true n 44 cs=some x) (hb:Rows.uptoBulk x.1<=1048576):∃ r:Ru,cs=Zn7 r/\RuM W W.heap.size r:=by
 obtain⟨xs,m,hx,hl,hxs,hg⟩:=X44 Tryz.underlying44 (by kernel_rfl) (je8 (by kernel_rfl)) h;obtain⟨c0,c1,c2,c3,c4,c5,c6,c7,c8,rfl⟩:=ln9 hl;obtain⟨y0,y1,y2,y3,y4,y5,y6,y7,y8,rfl⟩:=ln9 hxs;rw [hx] at hb;simp only [List.map_cons,List.map_nil,Rows.uptoBulk,Rows.uptoBulkAll] at hb;obtain⟨i0,e0,_⟩:=DataW.trod_int Tryz.underlying3 (hg 0 _ c0 y0 rfl rfl rfl);obtain⟨i1,e1,_⟩:=DataW.trod_int Tryz.underlying3 (hg 1 _ c1 y1 rfl rfl rfl);obtain⟨VA,vc,vs,e2,v1,v2,v3,_,v5⟩:=Ka4 (Q:=λ v:Vr=>v.n.size<=1048576) Tryz.underlying40 (sz:=3) (by kernel_rfl) (by decide) (cs:=zl0) (λ _=>rfl) (λ _ _ _ h hb=>k79 h hb) (hg 2 _ c2 y2 rfl rfl rfl) (by omega);obtain⟨ZA,zc,zs,e3,z1,z2,z3,_⟩:=jl3 (hg 3 _ c3 y3 rfl rfl rfl);obtain⟨no,e4,_⟩:=DataW.trod_bool Tryz.underlying4 (hg 4 _ c4 y4 rfl rfl rfl);obtain⟨i5,e5,_⟩:=DataW.trod_int Tryz.underlying3 (hg 5 _ c5 y5 rfl rfl rfl);obtain⟨s,e6,w6,_⟩:=DataW.trod_string Tryz.underlying9 (hg 6 _ c6 y6 rfl rfl rfl);obtain⟨XA,xc,xl,e7,x1,x2,x3,_,_⟩:=Ka4 (Q:=λ _:Int×Int=>True) Tryz.underlying42 (sz:=2) (by kernel_rfl) (by decide) (cs:=jQ1) (λ _=>rfl) (λ _ _ _ h _=>(Ya0 h).imp λ _ h=>⟨h,trivial⟩) (hg 7 _ c7 y7 rfl rfl rfl) (by omega);obtain⟨ch,e8,_⟩:=DataW.trod_bool Tryz.underlying4 (hg 8 _ c8 y8 rfl rfl rfl);simp only [List.cons.injEq,and_true] at e0 e1 e3 e4 e5 e6 e8;subst e0 e1 e2 e3 e4 e5 e6 e7 e8;unfold maxLen at z2;rw [w6] at hb;simp only [Rows.uptoBulk,qX6] at hb;exact⟨⟨i0,i1,vs,zs,no,i5,s,xl,ch,VA,vc,ZA,zc,XA,xc⟩,rfl,⟨v1,v2,v3,v5⟩,z3,x1,⟨z1,z2⟩,⟨x2,x3⟩,by dsimp only;omega⟩
set_option maxRecDepth 100000 in
theorem QC0 {c:Value} (h:DataW.trod enc Tryz.prog W 0 (λ _=>true) true n 22 [c]=some x) (hb:Rows.uptoBulk x.1<=1048576):∃ (A:Option Addr) (cap:Nat) (l:List Ru),c= .slice A l.length cap/\RuR W W.heap.size A cap l:=by
 obtain⟨A,cap,l,e,h1,h2,h3,_,h5⟩:=Ka4 (Q:=λ r=>RuM W W.heap.size r) Tryz.underlying22 (sz:=9) (by kernel_rfl) (by decide) (cs:=Zn7) (λ _=>rfl) (λ _ _ _ h hb=>ZY3 h hb) h hb;exact⟨A,cap,l,e,h1,Nat.le_refl _,⟨h2,h3⟩,h5⟩
end
end
set_option maxHeartbeats 400000 in
theorem Kn9 (n:Int) (h0:0<=n) (h1:n<=255) (w:World):
 Calls Tryz.prog 87 #[.int .u8 n] w λ e w'=>e= .returned (.int .i64 (jJ9 n))/\w=w':=by
 go_enter Tryz.func87,Tryz.ntmps87
 go_wp2
 go_loop [3] (λ i=>∃ k:Nat,k<=16/\i= .int .i64 k/\(jJ9 n<0\/(k:Int)<=jJ9 n)) (λ i=>16-(intOf i).toNat)
 case atStart=>exact⟨0,by omega,rfl,by omega⟩
 case round=>
  obtain⟨k,hk,rfl,hh⟩:=hrel
  go_wp2
  . go_ret;have hlt:(k:Int)<16:=(by assumption);exact⟨q54 (yv9 k (by omega)).symm,rfl⟩
  . go_ret;have hlt:(k:Int)<16:=(by assumption);rename_i hor _
    refine⟨q54 ?_,rfl⟩;simp only [beq_iff_eq] at hor;rcases hor with hor|hor
    . rw [hor];exact(yv9 k (by omega)).symm
    . rw [hor];exact(JN3 k (by omega)).symm
  . have hlt:(k:Int)<16:=by assumption
    have hne:jJ9 n≠k:=by
     refine QM6 n k (by omega) (by assumption) ?_;rename_i hor
     simp only [beq_eq_false_iff_ne,ne_eq] at hor;exact hor.2
    go_round
    case rel=>exact⟨k+1,by omega,by go_num,by omega⟩
    case measure=>simp [intOf];omega
  . go_ret;have hge:(16:Int)<=k:=(by assumption);have:=XX8 n;have:=Xv7 n;exact⟨q54 (by omega),rfl⟩
set_option maxHeartbeats 400000 in
theorem kX3 (n:Int) (h0:0<=n) (h1:n<=255) (w:World):
 Calls Tryz.prog 115 #[.int .u8 n] w λ e w'=>e= .returned (.int .i64 (jJ9 n))/\w=w':=by
 go_enter Tryz.func115,Tryz.ntmps115
 go_wp2
 all_goals go_ret
 all_goals refine⟨q54 ?_,rfl⟩
 all_goals (unfold jJ9;split<;>omega)
set_option maxHeartbeats 400000 in
theorem qw1 (s:ByteArray) (base most:Int) (w:World) (hs:s.size<=maxLen) (hb:2<=base) (hb2:base<=16) (hm0:0<=most) (hm:most<=9):
 Calls Tryz.prog 79 #[.string s,.int .i64 base,.int .i64 most] w λ e w'=>e= .returned (.tuple #[.int .i64 (zE8 base most s),.int .i64 (qH0 base most s)])/\w=w':=by
 unfold maxLen at hs;by_cases h0:s.size=0\/most<s.size
 . obtain⟨e1,e2⟩:=Yy2 (base:=base) (most:=most) (s:=s) (.inr (by omega));rw [e1,e2];clear e1 e2;have hz:((s.size:Int)==0)=true\/most<s.size:=(by rcases h0 with h|h;exact .inl (by simp [h]);exact .inr h);rcases hz with hz|hz
   all_goals
    go_enter Tryz.func79,Tryz.ntmps79
    go_wp2
    all_goals go_ret2
    all_goals exact⟨rfl,rfl⟩
 . have hz:((s.size:Int)==0)=false:=beq_eq_false_iff_ne.2 (by omega);have hl:¬most<(s.size:Int):=(by omega);have hp:1<=s.size:=(by omega);clear h0;go_enter Tryz.func79,Tryz.ntmps79
   go_wp2
   go_loop [8,22] (λ n i=>∃ k:Nat,k<=s.size/\i= .int .i64 k/\Zy1 base (s.data.toList.take k)=true/\n= .int .i64 (Jz6 base (s.data.toList.take k))) (λ _ i=>s.size-(intOf i).toNat)
   case atStart=>exact⟨0,by omega,rfl,rfl,rfl⟩
   case round=>
    obtain⟨k,hk,rfl,hd,rfl⟩:=hrel;obtain⟨b1,b2,b3,b4⟩:=QD9 hb hb2 _ hd (by rw [Jp3 s k hk];omega);have HD:=qh hd;clear hd;by_cases hlt:k<s.size
    . obtain⟨c1,c2⟩:=j65 s[k];have d1:=XX8 s[k].toNat;have d2:=Xv7 s[k].toNat;go_wp2_with (go_at_call 115;refine(kX3 _ (by omega) (by omega) _).mono ?_;rintro e w' ⟨rfl,rfl⟩)
      all_goals first
       |(go_ret2;obtain⟨e1,e2⟩:=Yy2 (base:=base) (most:=most) (s:=s) (.inl (y19 hlt (by omega)));rw [e1,e2];exact⟨rfl,rfl⟩)
       |(go_round;(case rel=>exact⟨k+1,by omega,by go_num,yA7 hlt HD.out (by omega) (by omega),by rw [Xo5 hlt]⟩);(case measure=>simp [intOf];omega))
    . go_wp2
      go_ret2;have h:=HD.out;rw [jS5 s (by omega)] at h;obtain⟨e1,e2⟩:=QN6 (base:=base) (most:=most) (s:=s) h hp (by omega);rw [e1,e2,jS5 s (by omega)];exact⟨rfl,rfl⟩
set_option maxHeartbeats 400000 in
theorem Jw5 (s:ByteArray) (base most:Int) (w:World) (hs:s.size<=maxLen) (hb:2<=base) (hb2:base<=16) (hm0:0<=most) (hm:most<=9):
 Calls Tryz.prog 86 #[.string s,.int .i64 base,.int .i64 most] w λ e w'=>e= .returned (.tuple #[.int .i64 (zE8 base most s),.int .i64 (qH0 base most s)])/\w=w':=by
 unfold maxLen at hs;go_enter Tryz.func86,Tryz.ntmps86
 go_wp2
 go_loop [8,9] (λ n i=>∃ k:Nat,k<=s.size/\(k:Int)<=most/\i= .int .i64 k/\Zy1 base (s.data.toList.take k)=true/\n= .int .i64 (Jz6 base (s.data.toList.take k))) (λ _ i=>s.size-(intOf i).toNat)
 case atStart=>exact⟨0,by omega,by omega,rfl,rfl,rfl⟩
 case round=>
  obtain⟨k,hk,hkm,rfl,hd,rfl⟩:=hrel;obtain⟨b1,b2,b3,b4⟩:=QD9 hb hb2 _ hd (by rw [Jp3 s k hk];omega);have HD:=qh hd;clear hd;by_cases hlt:k<s.size/\(k:Int)<most
  . obtain⟨hlt,hlm⟩:=hlt;obtain⟨c1,c2⟩:=j65 s[k];have d1:=XX8 s[k].toNat;have d2:=Xv7 s[k].toNat;go_wp2_with (go_at_call 87;refine(Kn9 _ (by omega) (by omega) _).mono ?_;rintro e w' ⟨rfl,rfl⟩)
    all_goals first
     |(go_ret2;obtain⟨e1,e2⟩:=Yy2 (base:=base) (most:=most) (s:=s) (.inl (y19 hlt (by omega)));rw [e1,e2];exact⟨rfl,rfl⟩)
     |(go_round;(case rel=>exact⟨k+1,by omega,by omega,by go_num,yA7 hlt HD.out (by omega) (by omega),by rw [Xo5 hlt]⟩);(case measure=>simp [intOf];omega))
  . by_cases h0:s.size<1\/most<s.size
    . have HE:=qh (Yy2 (base:=base) (most:=most) (s:=s) (.inr h0));have hz:(s.size:Int)<1\/most<(s.size:Int):=by omega
      go_wp2
      all_goals (go_ret2;rw [HE.out.1,HE.out.2];exact⟨rfl,rfl⟩)
    . have h:=HD.out;rw [jS5 s (by omega)] at h;have HE:=qh (QN6 (base:=base) (most:=most) (s:=s) h (by omega) (by omega))
      go_wp2
      go_ret2;rw [HE.out.1,HE.out.2,jS5 s (by omega)];exact⟨rfl,rfl⟩
theorem xw4 (s:ByteArray):0<=zE8 10 9 s:=by
 unfold zE8;split
 . rename_i h
   unfold X76 at h;rw [Bool.and_eq_true,Bool.and_eq_true] at h;exact(yn7 (by omega) (by omega) _ h.1.1).1
 . omega
theorem Jc5 (s:ByteArray):(X76 10 9 s=false/\qH0 10 9 s=4)\/(X76 10 9 s=true/\qH0 10 9 s=0/\0<s.size):=by
 unfold qH0;cases h:X76 10 9 s with
 |false=>exact .inl ⟨rfl,rfl⟩
 |true=>
  refine .inr ⟨rfl,rfl,?_⟩;unfold X76 at h;rw [Bool.and_eq_true,Bool.and_eq_true,decide_eq_true_eq] at h;omega
theorem Yj3 (s:ByteArray) (w:World) (hs:s.size<=maxLen):
 Calls Tryz.prog 39 #[.string s] w λ e w'=>e= .returned (.tuple #[.int .i64 (zE8 10 9 s),.int .i64 (qH0 10 9 s)])/\w=w':=by
 go_enter Tryz.func39,Tryz.ntmps39;go_wp2_with fail;refine(qw1 s 10 9 _ hs (by omega) (by omega) (by omega) (by omega)).mono ?_;rintro e w' ⟨rfl,rfl⟩;go_wp2_with fail;go_ret2;exact⟨rfl,rfl⟩
def smN (s:ByteArray) (most:Int):Int:=if X76 10 9 s=true/\zE8 10 9 s<=most/\¬(1<s.size/\s.data.toList[0]? =some 48) then zE8 10 9 s else-1
theorem Ql8 (s:ByteArray) (most:Int) (h0: -1<=most): -1<=smN s most/\smN s most<=most:=by
 have:=xw4 s;unfold smN;split
 . omega
 . omega
section
variable (s:ByteArray) (most:Int) (w:World)
theorem kC5:(qH0 10 9 s=4/\smN s most= -1)\/(qH0 10 9 s=0/\most<zE8 10 9 s/\smN s most= -1)\/
 (∃ h:0<s.size,qH0 10 9 s=0/\¬most<zE8 10 9 s/\((s[0].toNat:Int)==48)=false/\smN s most=zE8 10 9 s)\/
 (∃ h:0<s.size,qH0 10 9 s=0/\¬most<zE8 10 9 s/\((s[0].toNat:Int)==48)=true/\¬(1:Int)<(s.size:Int)/\smN s most=zE8 10 9 s)\/
 (∃ h:0<s.size,qH0 10 9 s=0/\¬most<zE8 10 9 s/\((s[0].toNat:Int)==48)=true/\(1:Int)<(s.size:Int)/\smN s most= -1):=by
 rcases Jc5 s with⟨h1,h2⟩|⟨h1,h2,h3⟩
 . exact .inl ⟨h2,by unfold smN;rw [if_neg];rintro⟨h,_⟩;rw [h1] at h;cases h⟩
 . by_cases h4:most<zE8 10 9 s
   . exact .inr (.inl ⟨h2,h4,by unfold smN;rw [if_neg];rintro⟨_,h,_⟩;omega⟩)
   . have hg:=Kb1? s 0 h3;by_cases h5:s[0]=48
     . have e5:((s[0].toNat:Int)==48)=true:=(by rw [h5];rfl);by_cases h6:1<s.size
       . exact .inr (.inr (.inr (.inr ⟨h3,h2,h4,e5,by omega,by unfold smN;rw [if_neg];rintro⟨_,_,h⟩;exact h ⟨h6,by rw [hg,h5]⟩⟩)))
       . exact .inr (.inr (.inr (.inl ⟨h3,h2,h4,e5,by omega,by unfold smN;rw [if_pos ⟨h1,by omega,λ h=>h6 h.1⟩]⟩)))
     . have e5:((s[0].toNat:Int)==48)=false:=by
        rw [beq_eq_false_iff_ne];intro h;apply h5;apply UInt8.toNat_inj.1;show s[0].toNat=48;omega
       exact .inr (.inr (.inl ⟨h3,h2,h4,e5,by unfold smN;rw [if_pos ⟨h1,by omega,λ h=>h5 (by have:=h.2;rw [hg] at this;injection this)⟩]⟩))
set_option maxHeartbeats 1000000 in
theorem ya2 (hs:s.size<=maxLen):
 Calls Tryz.prog 142 #[.string s,.int .i64 most] w λ e w'=>e= .returned (.int .i64 (smN s most))/\∃ q,w'=w.drewN q:=by
 have C:=qh λ w'=>Yj3 s w' hs
 have hcs:=kC5 s most;unfold maxLen at hs;obtain⟨N,hN⟩:∃ N,N=zE8 10 9 s:=⟨_,rfl⟩;obtain⟨E,hE⟩:∃ E,E=qH0 10 9 s:=⟨_,rfl⟩;obtain⟨R,hR⟩:∃ R,R=smN s most:=⟨_,rfl⟩;rw [<-hN,<-hE] at C;rw [<-hN,<-hE,<-hR] at hcs;rw [<-hR];clear hN hE hR;rcases hcs with⟨rfl,rfl⟩|⟨rfl,h1,rfl⟩|⟨h0,rfl,h1,h2,rfl⟩|⟨h0,rfl,h1,h2,h3,rfl⟩|⟨h0,rfl,h1,h2,h3,rfl⟩
 all_goals
  go_enter Tryz.func142,Tryz.ntmps142;go_wp2_with fail;refine(C.out _).mono ?_;rintro e w' ⟨rfl,rfl⟩;go_wp2_with fail;go_ret;exact⟨rfl,0,rfl⟩
set_option maxHeartbeats 1000000 in
theorem kt9 (hs:s.size<=maxLen):
 Calls Tryz.prog 50 #[.string s,.int .i64 most] w λ e w'=>e= .returned (.int .i64 (smN s most))/\w=w':=by
 have C:=qh λ w'=>Jw5 s 10 9 w' hs (by omega) (by omega) (by omega) (by omega)
 have hcs:=kC5 s most;unfold maxLen at hs;obtain⟨N,hN⟩:∃ N,N=zE8 10 9 s:=⟨_,rfl⟩;obtain⟨E,hE⟩:∃ E,E=qH0 10 9 s:=⟨_,rfl⟩;obtain⟨R,hR⟩:∃ R,R=smN s most:=⟨_,rfl⟩;rw [<-hN,<-hE] at C;rw [<-hN,<-hE,<-hR] at hcs;rw [<-hR];clear hN hE hR;have hsz:s.size<=9223372036854775807:=hs;rcases hcs with⟨rfl,rfl⟩|⟨rfl,h1,rfl⟩|⟨h0,rfl,h1,h2,rfl⟩|⟨h0,rfl,h1,h2,h3,rfl⟩|⟨h0,rfl,h1,h2,h3,rfl⟩
 all_goals by_cases h4:(1:Int)<(s.size:Int)
 all_goals try (exfalso;omega)
 all_goals
  go_enter Tryz.func50,Tryz.ntmps50;go_wp2_with fail;refine(C.out _).mono ?_;rintro e w' ⟨rfl,rfl⟩;go_wp2_with fail;go_ret;exact⟨rfl,rfl⟩
theorem jy2 (hs:s.size<=maxLen):
 Calls Tryz.prog 50 #[.string s,.int .i64 most] w λ e w'=>e= .returned (.int .i64 (smN s most))/\∃ q,w'=w.drewN q:=
 (kt9 s most w hs).mono λ _ _ h=>⟨h.1,0,h.2.symm⟩
end
def Jf7:List ByteArray:= [⟨#[]⟩,⟨#[109,101,116,104,111,100]⟩,⟨#[116,97,114,103,101,116]⟩,⟨#[112,97,116,104]⟩,⟨#[113,117,101,114,121]⟩,⟨#[98,111,100,121]⟩,⟨#[97,114,103,115]⟩,⟨#[97,114,103,110,97,109,101,115]⟩,⟨#[102,105,101,108,100,115]⟩,⟨#[102,105,101,108,100,110,97,109,101,115]⟩,⟨#[99,111,111,107,105,101,115]⟩,⟨#[99,108,105,101,110,116]⟩,⟨#[115,99,111,114,101]⟩]
def Zd4:List ByteArray:= [⟨#[]⟩,⟨#[114,120]⟩,⟨#[112,104,114,97,115,101]⟩,⟨#[105,115]⟩,⟨#[104,97,115]⟩,⟨#[98,101,103,105,110,115]⟩,⟨#[101,110,100,115]⟩,⟨#[103,116]⟩,⟨#[108,116]⟩,⟨#[101,113]⟩,⟨#[110,101,116]⟩,⟨#[114,97,110,103,101]⟩,⟨#[97,110,121]⟩]
def XF4:List ByteArray:= [⟨#[]⟩,⟨#[112,97,115,115]⟩,⟨#[100,101,110,121]⟩,⟨#[115,99,111,114,101]⟩,⟨#[115,107,105,112]⟩,⟨#[97,108,108,111,119]⟩]
set_option maxRecDepth 100000 in
set_option maxHeartbeats 4000000 in
theorem zn7 (k:Nat) (hk:k<13) (w:World):Calls Tryz.prog 80 #[.int .i64 (k:Int)] w λ e w'=>e= .returned (.string (Jf7.getD k ByteArray.empty))/\w=w':=by
 have ix:∀ w,(Instr.index 60 (.agg #[.string ⟨#[]⟩,.string ⟨#[109,101,116,104,111,100]⟩,.string ⟨#[116,97,114,103,101,116]⟩,.string ⟨#[112,97,116,104]⟩,.string ⟨#[113,117,101,114,121]⟩,.string ⟨#[98,111,100,121]⟩,.string ⟨#[97,114,103,115]⟩,.string ⟨#[97,114,103,110,97,109,101,115]⟩,.string ⟨#[102,105,101,108,100,115]⟩,.string ⟨#[102,105,101,108,100,110,97,109,101,115]⟩,.string ⟨#[99,111,111,107,105,101,115]⟩,.string ⟨#[99,108,105,101,110,116]⟩,.string ⟨#[115,99,111,114,101]⟩]) (.int .i64 (k:Int))).run Tryz.prog w= .ok (.string (Jf7.getD k ByteArray.empty)) w:=λ w=>by
  obtain rfl|rfl|rfl|rfl|rfl|rfl|rfl|rfl|rfl|rfl|rfl|rfl|rfl:k=0\/k=1\/k=2\/k=3\/k=4\/k=5\/k=6\/k=7\/k=8\/k=9\/k=10\/k=11\/k=12:=by omega
  all_goals kernel_rfl
 obtain⟨S,hS⟩:∃ S,S=Jf7.getD k ByteArray.empty:=⟨_,rfl⟩;rw [<-hS] at ix⊢;clear hS hk;go_enter Tryz.func80,Tryz.ntmps80;go_wp2_with fail;go_ret;exact⟨rfl,rfl⟩
set_option maxRecDepth 100000 in
set_option maxHeartbeats 4000000 in
theorem kO0 (k:Nat) (hk:k<13) (w:World):Calls Tryz.prog 46 #[.int .i64 (k:Int)] w λ e w'=>e= .returned (.string (Zd4.getD k ByteArray.empty))/\w=w':=by
 have ix:∀ w,(Instr.index 60 (.agg #[.string ⟨#[]⟩,.string ⟨#[114,120]⟩,.string ⟨#[112,104,114,97,115,101]⟩,.string ⟨#[105,115]⟩,.string ⟨#[104,97,115]⟩,.string ⟨#[98,101,103,105,110,115]⟩,.string ⟨#[101,110,100,115]⟩,.string ⟨#[103,116]⟩,.string ⟨#[108,116]⟩,.string ⟨#[101,113]⟩,.string ⟨#[110,101,116]⟩,.string ⟨#[114,97,110,103,101]⟩,.string ⟨#[97,110,121]⟩]) (.int .i64 (k:Int))).run Tryz.prog w= .ok (.string (Zd4.getD k ByteArray.empty)) w:=λ w=>by
  obtain rfl|rfl|rfl|rfl|rfl|rfl|rfl|rfl|rfl|rfl|rfl|rfl|rfl:k=0\/k=1\/k=2\/k=3\/k=4\/k=5\/k=6\/k=7\/k=8\/k=9\/k=10\/k=11\/k=12:=by omega
  all_goals kernel_rfl
 obtain⟨S,hS⟩:∃ S,S=Zd4.getD k ByteArray.empty:=⟨_,rfl⟩;rw [<-hS] at ix⊢;clear hS hk;go_enter Tryz.func46,Tryz.ntmps46;go_wp2_with fail;go_ret;exact⟨rfl,rfl⟩
set_option maxRecDepth 100000 in
set_option maxHeartbeats 4000000 in
theorem Xk5 (k:Nat) (hk:k<6) (w:World):Calls Tryz.prog 81 #[.int .i64 (k:Int)] w λ e w'=>e= .returned (.string (XF4.getD k ByteArray.empty))/\w=w':=by
 have ix:∀ w,(Instr.index 61 (.agg #[.string ⟨#[]⟩,.string ⟨#[112,97,115,115]⟩,.string ⟨#[100,101,110,121]⟩,.string ⟨#[115,99,111,114,101]⟩,.string ⟨#[115,107,105,112]⟩,.string ⟨#[97,108,108,111,119]⟩]) (.int .i64 (k:Int))).run Tryz.prog w= .ok (.string (XF4.getD k ByteArray.empty)) w:=λ w=>by
  obtain rfl|rfl|rfl|rfl|rfl|rfl:k=0\/k=1\/k=2\/k=3\/k=4\/k=5:=by omega
  all_goals kernel_rfl
 obtain⟨S,hS⟩:∃ S,S=XF4.getD k ByteArray.empty:=⟨_,rfl⟩;rw [<-hS] at ix⊢;clear hS hk;go_enter Tryz.func81,Tryz.ntmps81;go_wp2_with fail;go_ret;exact⟨rfl,rfl⟩
end Go.Proofs.YtngepacmgabmaaaGreatDoor
