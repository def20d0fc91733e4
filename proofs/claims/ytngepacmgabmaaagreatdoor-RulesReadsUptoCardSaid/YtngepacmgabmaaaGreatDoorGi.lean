/- A rule out of its eight words, plainly; ; Sets of bytes: four words of 64 bits; is .. -/
import Derived.Test.YtngepacmgabmaaaGreatDoorGg
import Derived.Test.YtngepacmgabmaaaGreatDoorGh
import Derived.WalkSmall
import Derived.Carry
import Derived.ChangeArms
import Derived.Laws.IdiomArrays
namespace Go.Proofs.YtngepacmgabmaaaGreatDoor
open Go.RowKit
set_option linter.unusedVariables false
set_option linter.unusedSimpArgs false
def JH3:ByteArray:=⟨#[114,117,108,101]⟩
def Ym5:ByteArray:=⟨#[99,104,97,105,110]⟩
def wAt (ws:List ByteArray) (k:Nat):ByteArray:=ws.getD k ByteArray.empty
def JG6 (ws:List ByteArray):Bool:=decide (ws.length=8)&&(decide (wAt ws 0=JH3)||decide (wAt ws 0=Ym5))
def YB0 (s:ByteArray):ByteArray:=Ju6 s ⟨#[33]⟩
def rdE (ws:List ByteArray):Int:=
 if JG6 ws=false then 3 else if rnN (wAt ws 1)<0\/rnN (wAt ws 2)<0\/(rlV (wAt ws 3)).2=false\/(rlA (wAt ws 7)).2=false\/plW Zd4 (YB0 (wAt ws 5))=0\/¬KN6 (wAt ws 6).data.toList=0 then 3 else rpE (wAt ws 4)
structure IsRu (ws:List ByteArray) (r:Ru):Prop where
 id:r.id=rnN (wAt ws 1)
 ph:r.ph=rnN (wAt ws 2)
 vs:r.vs=(rlV (wAt ws 3)).1
 zs:r.zs=rpL (wAt ws 4)
 no:r.no=j11 (wAt ws 5) ⟨#[33]⟩
 op:r.op=plW Zd4 (YB0 (wAt ws 5))
 arg:r.arg=str (zn2 (wAt ws 6).data.toList)
 xs:r.xs=(rlA (wAt ws 7)).1
 ch:r.ch=decide (wAt ws 0=Ym5)
def zRu:Ru:=⟨0,0,[],[],false,0,{data:=#[]},[],false,none,0,none,0,none,0⟩
structure R2 (w wr:World) (r:Ru):Prop where
 z:Blk wr w.heap.size 44 (Zn7 zRu).toArray
 v:Blk wr (w.heap.size+1) 44 (Zn7 r).toArray
 be:Below w.heap.size w wr
section
variable {w wr wr':World} {r:Ru}
theorem R2.start (w:World):R2 w ((w.alloc (.cells (Zn7 zRu).toArray 44)).alloc (.cells (Zn7 zRu).toArray 44)) zRu:=by
 refine⟨Blk.alloc (Blk.new _ _ _) _,?_,((Below.refl _ _).alloc (Nat.le_refl _) _).alloc (by simp) _⟩;have:=Blk.new (w.alloc (.cells (Zn7 zRu).toArray 44)) 44 (Zn7 zRu).toArray;have e:(w.alloc (.cells (Zn7 zRu).toArray 44)).heap.size=w.heap.size+1:=Array.size_push _;rw [e] at this;exact this
theorem R2.lt (h:R2 w wr r):w.heap.size+1<wr.heap.size:=Blk.lt h.v
theorem R2.kept (h:R2 w wr r) (hb:Below wr.heap.size wr wr'):R2 w wr' r:=⟨h.z.below hb (Blk.lt h.z),h.v.below hb (Blk.lt h.v),h.be.trans (hb.mono (by have:=h.lt;omega))⟩
theorem R2.drewN (h:R2 w wr r) (q:Nat):R2 w (wr.drewN q) r:=⟨h.z,h.v,below_drewN h.be q⟩
theorem R2.set (h:R2 w wr r) (i:Nat) (u:Value) {r':Ru} (e:(Zn7 r).toArray.setIfInBounds i u=(Zn7 r').toArray):R2 w (wr.setCell ⟨w.heap.size+1,i,none⟩ u) r':=
 ⟨h.z.far (by simp) _,by rw [<-e];exact h.v.set_ i u,h.be.setCell (p:=⟨w.heap.size+1,i,none⟩) (Nat.le_succ _) _⟩
theorem z19 {g:Nat} (h:Blk wr g 44 (Zn7 r).toArray):wr.cell? ⟨g,0,none⟩=some (.int .i64 r.id)/\wr.cell? ⟨g,1,none⟩=some (.int .i64 r.ph)/\wr.cell? ⟨g,2,none⟩=some (.slice r.VA r.vs.length r.vc)/\wr.cell? ⟨g,3,none⟩=some (.slice r.ZA r.zs.length r.zc)/\wr.cell? ⟨g,4,none⟩=some (.bool r.no)/\wr.cell? ⟨g,5,none⟩=some (.int .i64 r.op)/\wr.cell? ⟨g,6,none⟩=some (.string r.arg)/\wr.cell? ⟨g,7,none⟩=some (.slice r.XA r.xs.length r.xc)/\wr.cell? ⟨g,8,none⟩=some (.bool r.ch):=
 ⟨h.cell 0,h.cell 1,h.cell 2,h.cell 3,h.cell 4,h.cell 5,h.cell 6,h.cell 7,h.cell 8⟩
theorem R2.fz (h:R2 w wr r) (i:Nat):wr.frozen? ⟨w.heap.size+1,i,none⟩=false:=h.v.frozen i
theorem R2.rfz (h:R2 w wr r) (i:Nat):wr.frozen? ⟨w.heap.size,i,none⟩=false:=h.z.frozen i
def Z57 (wr:World) (g:Nat) (r:Ru):World:=((((((((wr.setCell ⟨g,0,none⟩ (.int .i64 r.id)).setCell ⟨g,1,none⟩ (.int .i64 r.ph)).setCell ⟨g,2,none⟩ (.slice r.VA r.vs.length r.vc)).setCell ⟨g,3,none⟩ (.slice r.ZA r.zs.length r.zc)).setCell ⟨g,4,none⟩ (.bool r.no)).setCell ⟨g,5,none⟩ (.int .i64 r.op)).setCell ⟨g,6,none⟩ (.string r.arg)).setCell ⟨g,7,none⟩ (.slice r.XA r.xs.length r.xc)).setCell ⟨g,8,none⟩ (.bool r.ch)
theorem Qe3 (z r:Ru):((((((((((Zn7 z).toArray.setIfInBounds 0 (.int .i64 r.id)).setIfInBounds 1 (.int .i64 r.ph)).setIfInBounds 2 (.slice r.VA r.vs.length r.vc)).setIfInBounds 3 (.slice r.ZA r.zs.length r.zc)).setIfInBounds 4 (.bool r.no)).setIfInBounds 5 (.int .i64 r.op)).setIfInBounds 6 (.string r.arg)).setIfInBounds 7 (.slice r.XA r.xs.length r.xc)).setIfInBounds 8 (.bool r.ch))=(Zn7 r).toArray:=by
 simp only [List.setIfInBounds_toArray];rfl
theorem R2.put (h:R2 w wr r):Blk (Z57 wr w.heap.size r) w.heap.size 44 (Zn7 r).toArray/\Below w.heap.size w (Z57 wr w.heap.size r):=by
 have h2:=((((((((h.z.set_ 0 (.int .i64 r.id)).set_ 1 (.int .i64 r.ph)).set_ 2 (.slice r.VA r.vs.length r.vc)).set_ 3 (.slice r.ZA r.zs.length r.zc)).set_ 4 (.bool r.no)).set_ 5 (.int .i64 r.op)).set_ 6 (.string r.arg)).set_ 7 (.slice r.XA r.xs.length r.xc)).set_ 8 (.bool r.ch);rw [Qe3] at h2;unfold Z57;exact⟨h2,((((((((h.be.setCell (p:=⟨w.heap.size,0,none⟩) (Nat.le_refl _) _).setCell (p:=⟨w.heap.size,1,none⟩) (Nat.le_refl _) _).setCell (p:=⟨w.heap.size,2,none⟩) (Nat.le_refl _) _).setCell (p:=⟨w.heap.size,3,none⟩) (Nat.le_refl _) _).setCell (p:=⟨w.heap.size,4,none⟩) (Nat.le_refl _) _).setCell (p:=⟨w.heap.size,5,none⟩) (Nat.le_refl _) _).setCell (p:=⟨w.heap.size,6,none⟩) (Nat.le_refl _) _).setCell (p:=⟨w.heap.size,7,none⟩) (Nat.le_refl _) _).setCell (p:=⟨w.heap.size,8,none⟩) (Nat.le_refl _) _⟩
end
structure RuO (w:World) (B:Nat) (r:Ru):Prop where
 vs:w.ownsRow B 51 3 (.slice r.VA r.vs.length r.vc) r.vs.length (r.vs.flatMap zl0)
 zs:OI w B (.slice r.ZA r.zs.length r.zc) r.zs
 xs:w.ownsRow B 55 2 (.slice r.XA r.xs.length r.xc) r.xs.length (r.xs.flatMap jQ1)
def KB2 (ws:List ByteArray) (w:World) (e:Ending) (w':World):Prop:=∃ r:Ru,e= .returned (.tuple #[.agg (Zn7 r).toArray,.int .i64 (rdE ws)])/\(rdE ws=0->IsRu ws r/\RuO w' (w.heap.size+2) r)/\Below w.heap.size w w'
structure Q4 where
 (a b c d:Nat)
def Q4.ok (s:Q4):Prop:=s.a<18446744073709551616/\s.b<18446744073709551616/\s.c<18446744073709551616/\s.d<18446744073709551616
def Q4.zero (s:Q4):Bool:=s.a==0&&s.b==0&&s.c==0&&s.d==0
abbrev Q4.vals (s:Q4):List Value:= [.int .u64 (s.a:Int),.int .u64 (s.b:Int),.int .u64 (s.c:Int),.int .u64 (s.d:Int)]
theorem K65 {s:Q4} (h:s.zero=true):s=⟨0,0,0,0⟩:=by
 obtain⟨a,b,c,d⟩:=s;simp [Q4.zero] at h;obtain⟨⟨⟨rfl,rfl⟩,rfl⟩,rfl⟩:=h;rfl
def Q4.word (s:Q4) (k:Nat):Nat:=if k=0 then s.a else if k=1 then s.b else if k=2 then s.c else s.d
def k32 (s:Q4) (b:Nat):Bool:=decide (s.word (b/64)/2^(b%64)%2=1)
theorem yA6 {b:Nat} (hb:b<=255):(b/64=0/\(b:Int)/64=0)\/(b/64=1/\(b:Int)/64=1)\/(b/64=2/\(b:Int)/64=2)\/(b/64=3/\(b:Int)/64=3):=by omega
theorem qU3 (x k:Nat):((x/2^k:Nat):Int)=(x:Int)/2^k:=by simp
theorem yd4 (m:Nat):((m:Int)%2==1)=decide (m%2=1):=by
 rw [Bool.eq_iff_iff,beq_iff_eq,decide_eq_true_eq];omega
theorem Z80 (x k:Nat):(((x:Int)/2^k).tmod 2==1)=decide (x/2^k%2=1):=by
 rw [<-qU3];obtain⟨m,hm⟩:∃ m,m=x/2^k:=⟨_,rfl⟩;rw [<-hm];rw [Int.tmod_eq_emod_of_nonneg (by omega),yd4]

section
open Go.RowKit Go.ChangeShapes
inductive Rx where
 |mk (k:Int) (s:Q4) (ks:List Rx)
def Rx.k:Rx->Int
 | .mk k _ _=>k
def Rx.s:Rx->Q4
 | .mk _ s _=>s
def Rx.ks:Rx->List Rx
 | .mk _ _ ks=>ks
abbrev ZF1 (k:Int) (s:Q4) (A:Option Addr) (n cap:Nat):List Value:= [.int .i64 k,.int .u64 (s.a:Int),.int .u64 (s.b:Int),.int .u64 (s.c:Int),.int .u64 (s.d:Int),.slice A n cap]
def RxC (w:World) (B:Nat):Nat->Rx->List Value->Prop
 |0,_,_=>False
 |n+1,r,cs=>r.s.ok/\(-9223372036854775808<=r.k/\r.k<=9223372036854775807)/\∃ (A:Option Addr) (cap:Nat),cs=ZF1 r.k r.s A r.ks.length cap/\r.ks.length<=cap/\cap<=9223372036854775807/\
  (0<r.ks.length->∃ ad,A=some ad/\ad.block<B)/\
  ∀ i x,r.ks[i]? =some x->∃ ad cs',A=some ad/\(∀ j u,cs'[j]? =some u->w.cell? (ad.add (i*6+j))=some u)/\RxC w B n x cs'
theorem RxC.keep {w w':World} {B:Nat} (hk:∀ p:Addr,p.block<B->w'.cell? p=w.cell? p):∀ {n:Nat} {r:Rx} {cs:List Value},RxC w B n r cs->RxC w' B n r cs
 |0,_,_,h=>h
 |n+1,r,cs,⟨h1,h2,A,cap,h3,h4,h5,h6,h7⟩=>⟨h1,h2,A,cap,h3,h4,h5,h6,λ i x hi=>by
  obtain⟨ad,cs',e,hc,hr⟩:=h7 i x hi
  obtain⟨ad',e',hb⟩:=h6 (by
   rcases Nat.eq_zero_or_pos r.ks.length with h|h
   . rw [List.getElem?_eq_none (by omega)] at hi;cases hi
   . exact h)
  rw [e] at e';injection e' with e';subst e';exact⟨ad,cs',e,λ j u hu=>(hk _ (by rw [ZE9];exact hb)).trans (hc j u hu),RxC.keep hk hr⟩⟩
theorem RxC.below {w w':World} {B:Nat} {n:Nat} {r:Rx} {cs:List Value} (h:RxC w B n r cs) (hb:Below B w w'):RxC w' B n r cs:=h.keep λ _ hp=>hb.cell hp
theorem RxC.alloc {w:World} {B:Nat} {n:Nat} {r:Rx} {cs:List Value} (h:RxC w B n r cs) (hB:B<=w.heap.size) (o:Obj):RxC (w.alloc o) B n r cs:=h.keep λ p hp=>World.cell?_alloc_lt w o p (by omega)
theorem RxC.drew {w:World} {B:Nat} {n:Nat} {r:Rx} {cs:List Value} (h:RxC w B n r cs):RxC w.drew B n r cs:=RxC.keep (w:=w) (w':=w.drew) (λ _ _=>rfl) h
def Z72 (k:Int):Int:=if k=4\/k=5 then 2 else if k=6 then 1 else if k=1\/k=2\/k=3\/k=7\/k=8 then 0 else-1
def okR (r:Rx):Bool:=Z72 r.k==(r.ks.length:Int)&&((r.k==3)== !r.s.zero)
def xy6 (f:Rx->Nat->Int×Nat):List Rx->Nat->Int×Nat
 | [],m=>(0,m)
 |k::ks,m=>if (f k m).1≠0 then f k m else xy6 f ks (f k m).2
def chk:Nat->Rx->Int->Nat->Int×Nat
 |0,_,_,m=>(0,m)
 |n+1,r,deep,m=>if 80<m+1 then (2,m+1) else if 20<deep then (11,m+1) else if okR r=false then (1,m+1) else xy6 (λ k m=>chk n k (deep+1) m) r.ks (m+1)
theorem X58 {f:Rx->Nat->Int×Nat} (hf:∀ k m,m<=(f k m).2/\((f k m).1=0->m<=80->(f k m).2<=80)):∀ (ks:List Rx) (m:Nat),m<=(xy6 f ks m).2/\((xy6 f ks m).1=0->m<=80->(xy6 f ks m).2<=80)
 | [],m=>⟨Nat.le_refl _,λ _ h=>h⟩
 |k::ks,m=>by
  unfold xy6;by_cases h:(f k m).1≠0
  . rw [if_pos h];exact⟨(hf k m).1,λ h0=>absurd h0 h⟩
  . rw [if_neg h];have h1:=X58 hf ks (f k m).2;have h2:=hf k m;exact⟨Nat.le_trans h2.1 h1.1,λ h0 hm=>h1.2 h0 (h2.2 (by simpa using h) hm)⟩
theorem Qe1:∀ (n:Nat) (r:Rx) (deep:Int) (m:Nat),m<=(chk n r deep m).2/\((chk n r deep m).1=0->m<=80->(chk n r deep m).2<=80)
 |0,r,deep,m=>⟨Nat.le_refl _,λ _ h=>h⟩
 |n+1,r,deep,m=>by
  unfold chk;by_cases h1:80<m+1
  . rw [if_pos h1];exact⟨by simp,λ h=>absurd h (by simp)⟩
  . rw [if_neg h1];by_cases h2:20<deep
    . rw [if_pos h2];exact⟨by simp,λ h=>absurd h (by simp)⟩
    . rw [if_neg h2];by_cases h3:okR r=false
      . rw [if_pos h3];exact⟨by simp,λ h=>absurd h (by simp)⟩
      . rw [if_neg h3];have h4:=X58 (λ k m=>Qe1 n k (deep+1) m) r.ks (m+1);exact⟨by omega,λ h hm=>h4.2 h (by omega)⟩
theorem QD2 {n:Nat} {r:Rx} {deep:Int} {m:Nat} (h:80<m+1):chk (n+1) r deep m=(2,m+1):=by rw [chk,if_pos h]
theorem XU7 {n:Nat} {r:Rx} {deep:Int} {m:Nat} (h:¬80<m+1) (h2:20<deep):chk (n+1) r deep m=(11,m+1):=by rw [chk,if_neg h,if_pos h2]
theorem JT6 {n:Nat} {r:Rx} {deep:Int} {m:Nat} (h:¬80<m+1) (h2:¬20<deep) (h3:okR r=false):chk (n+1) r deep m=(1,m+1):=by rw [chk,if_neg h,if_neg h2,if_pos h3]
theorem jo5 {n:Nat} {r:Rx} {deep:Int} {m:Nat} (h:¬80<m+1) (h2:¬20<deep) (h3:okR r=true):chk (n+1) r deep m=xy6 (λ k m=>chk n k (deep+1) m) (r.ks.drop 0) (m+1):=by
 rw [chk,if_neg h,if_neg h2,if_neg (by rw [h3];simp),List.drop_zero]
theorem XP9 {f:Rx->Nat->Int×Nat} {ks:List Rx} {i m:Nat} (h:ks.length<=i):xy6 f (ks.drop i) m=(0,m):=by rw [List.drop_of_length_le h];rfl
theorem z44 {f:Rx->Nat->Int×Nat} {ks:List Rx} {i m:Nat} {x:Rx} {e:Int} {m':Nat} (h:ks[i]? =some x) (hf:f x m=(e,m')) (he:e≠0):xy6 f (ks.drop i) m=(e,m'):=by
 obtain⟨hi,rfl⟩:=List.getElem?_eq_some_iff.1 h;rw [List.drop_eq_getElem_cons hi,xy6,hf,if_pos he]
theorem kA7 {f:Rx->Nat->Int×Nat} {ks:List Rx} {i m:Nat} {x:Rx} {m':Nat} (h:ks[i]? =some x) (hf:f x m=(0,m')):xy6 f (ks.drop i) m=xy6 f (ks.drop (i+1)) m':=by
 obtain⟨hi,rfl⟩:=List.getElem?_eq_some_iff.1 h;rw [List.drop_eq_getElem_cons hi,xy6,hf,if_neg (by simp)]
inductive Re where
 |none|empty|byte (s:Q4)|cat (a b:Re)|alt (a b:Re)|star (a:Re)|beg|fin
def Re.kind:Re->Int
 | .none=>1| .empty=>2| .byte _=>3| .cat _ _=>4| .alt _ _=>5| .star _=>6| .beg=>7| .fin=>8
def Re.set:Re->Q4
 | .byte s=>s
 |_=>⟨0,0,0,0⟩
def Re.kids:Re->List Re
 | .cat a b=> [a,b]
 | .alt a b=> [a,b]
 | .star a=> [a]
 |_=> []
def Re.size:Re->Nat
 | .cat a b=>a.size+b.size+1
 | .alt a b=>a.size+b.size+1
 | .star a=>a.size+1
 |_=>1
def Re.deep:Re->Nat
 | .cat a b=>max a.deep b.deep+1
 | .alt a b=>max a.deep b.deep+1
 | .star a=>a.deep+1
 |_=>1
def Re.right:Re->Prop
 | .byte s=>s.zero=false
 | .cat a b=>a.right/\b.right
 | .alt a b=>a.right/\b.right
 | .star a=>a.right
 |_=>True
def At6 (w:World) (B:Nat) (A:Option Addr) (i:Nat) (cs:List Value):Prop:=∃ ad,A=some ad/\ad.block<B/\∀ j u,cs[j]? =some u->w.cell? (ad.add (i*6+j))=some u
def ReC (w:World) (B:Nat):Re->List Value->Prop
 | .none,cs=>∃ A cap,cs=ZF1 1 ⟨0,0,0,0⟩ A 0 cap
 | .empty,cs=>∃ A cap,cs=ZF1 2 ⟨0,0,0,0⟩ A 0 cap
 | .byte s,cs=>s.ok/\s.zero=false/\∃ A cap,cs=ZF1 3 s A 0 cap
 | .cat a b,cs=>∃ A cap ca cb,cs=ZF1 4 ⟨0,0,0,0⟩ A 2 cap/\2<=cap/\cap<=9223372036854775807/\At6 w B A 0 ca/\At6 w B A 1 cb/\ReC w B a ca/\ReC w B b cb
 | .alt a b,cs=>∃ A cap ca cb,cs=ZF1 5 ⟨0,0,0,0⟩ A 2 cap/\2<=cap/\cap<=9223372036854775807/\At6 w B A 0 ca/\At6 w B A 1 cb/\ReC w B a ca/\ReC w B b cb
 | .star a,cs=>∃ A cap ca,cs=ZF1 6 ⟨0,0,0,0⟩ A 1 cap/\1<=cap/\cap<=9223372036854775807/\At6 w B A 0 ca/\ReC w B a ca
 | .beg,cs=>∃ A cap,cs=ZF1 7 ⟨0,0,0,0⟩ A 0 cap
 | .fin,cs=>∃ A cap,cs=ZF1 8 ⟨0,0,0,0⟩ A 0 cap
theorem At6.keep {w w':World} {B i:Nat} {A:Option Addr} {cs:List Value} (hk:∀ p:Addr,p.block<B->w'.cell? p=w.cell? p) (h:At6 w B A i cs):At6 w' B A i cs:=by
 obtain⟨ad,e,hb,hc⟩:=h;exact⟨ad,e,hb,λ j u hu=>(hk _ (by rw [ZE9];exact hb)).trans (hc j u hu)⟩
theorem ReC.keep {w w':World} {B:Nat} (hk:∀ p:Addr,p.block<B->w'.cell? p=w.cell? p):∀ {q:Re} {cs:List Value},ReC w B q cs->ReC w' B q cs
 | .none,_,h=>h
 | .empty,_,h=>h
 | .byte _,_,h=>h
 | .beg,_,h=>h
 | .fin,_,h=>h
 | .cat a b,_,⟨A,cap,ca,cb,h1,h2,h3,h4,h5,h6,h7⟩=>⟨A,cap,ca,cb,h1,h2,h3,h4.keep hk,h5.keep hk,ReC.keep hk h6,ReC.keep hk h7⟩
 | .alt a b,_,⟨A,cap,ca,cb,h1,h2,h3,h4,h5,h6,h7⟩=>⟨A,cap,ca,cb,h1,h2,h3,h4.keep hk,h5.keep hk,ReC.keep hk h6,ReC.keep hk h7⟩
 | .star a,_,⟨A,cap,ca,h1,h2,h3,h4,h5⟩=>⟨A,cap,ca,h1,h2,h3,h4.keep hk,ReC.keep hk h5⟩
theorem ReC.below {w w':World} {B:Nat} {q:Re} {cs:List Value} (h:ReC w B q cs) (hb:Below B w w'):ReC w' B q cs:=h.keep λ _ hp=>hb.cell hp
theorem ReC.alloc {w:World} {B:Nat} {q:Re} {cs:List Value} (h:ReC w B q cs) (hB:B<=w.heap.size) (o:Obj):ReC (w.alloc o) B q cs:=h.keep λ p hp=>World.cell?_alloc_lt w o p (by omega)
theorem ReC.drew {w:World} {B:Nat} {q:Re} {cs:List Value} (h:ReC w B q cs):ReC w.drew B q cs:=ReC.keep (w:=w) (w':=w.drew) (λ _ _=>rfl) h
theorem je3 {n:Nat} {r:Rx} {deep:Int} {m:Nat} (h:(chk (n+1) r deep m).1=0):m+1<=80/\deep<=20/\okR r=true/\chk (n+1) r deep m=xy6 (λ k m=>chk n k (deep+1) m) r.ks (m+1):=by
 rw [chk] at h⊢;by_cases h1:80<m+1
 . rw [if_pos h1] at h;cases h
 . rw [if_neg h1] at h⊢;by_cases h2:20<deep
   . rw [if_pos h2] at h;cases h
   . rw [if_neg h2] at h⊢;by_cases h3:okR r=false
     . rw [if_pos h3] at h;cases h
     . rw [if_neg h3] at h⊢;exact⟨by omega,by omega,by simpa using h3,rfl⟩
theorem yR6 {f:Rx->Nat->Int×Nat} {k:Rx} {ks:List Rx} {m:Nat} (h:(xy6 f (k::ks) m).1=0):(f k m).1=0/\xy6 f (k::ks) m=xy6 f ks (f k m).2:=by
 rw [xy6] at h⊢;by_cases h1:(f k m).1≠0
 . rw [if_pos h1] at h;exact absurd h h1
 . rw [if_neg h1] at h⊢;exact⟨by simpa using h1,rfl⟩
theorem qO7 {k:Int} (h:Z72 k=0):k=1\/k=2\/k=3\/k=7\/k=8:=by
 unfold Z72 at h;by_cases a:k=4\/k=5
 . rw [if_pos a] at h;omega
 . rw [if_neg a] at h;by_cases b:k=6
   . rw [if_pos b] at h;omega
   . rw [if_neg b] at h;by_cases c:k=1\/k=2\/k=3\/k=7\/k=8
     . exact c
     . rw [if_neg c] at h;omega
theorem yl1 {k:Int} (h:Z72 k=1):k=6:=by
 unfold Z72 at h;by_cases a:k=4\/k=5
 . rw [if_pos a] at h;omega
 . rw [if_neg a] at h;by_cases b:k=6
   . exact b
   . rw [if_neg b] at h;by_cases c:k=1\/k=2\/k=3\/k=7\/k=8
     . rw [if_pos c] at h;omega
     . rw [if_neg c] at h;omega
theorem zZ5 {k:Int} (h:Z72 k=2):k=4\/k=5:=by
 unfold Z72 at h;by_cases a:k=4\/k=5
 . exact a
 . rw [if_neg a] at h;by_cases b:k=6
   . rw [if_pos b] at h;omega
   . rw [if_neg b] at h;by_cases c:k=1\/k=2\/k=3\/k=7\/k=8
     . rw [if_pos c] at h;omega
     . rw [if_neg c] at h;omega
theorem KE6 (k:Int):Z72 k<3:=by
 unfold Z72;by_cases a:k=4\/k=5
 . rw [if_pos a];omega
 . rw [if_neg a];by_cases b:k=6
   . rw [if_pos b];omega
   . rw [if_neg b];by_cases c:k=1\/k=2\/k=3\/k=7\/k=8
     . rw [if_pos c];omega
     . rw [if_neg c];omega
theorem JD0 {w:World} {B:Nat}:∀ (n:Nat) (r:Rx) (cs:List Value) (deep:Int) (m:Nat),RxC w B n r cs->(chk n r deep m).1=0->m<=80->
 ∃ q:Re,ReC w B q cs/\q.right/\(chk n r deep m).2=m+q.size/\m+q.size<=80/\deep+q.deep<=21
 |0,_,_,_,_,h,_,_=>h.elim
 |n+1,.mk k s ks,cs,deep,m,⟨hs,hk,A,cap,e,h4,h5,h6,h7⟩,h0,hm=>by
  obtain⟨h1,h2,h3,h8⟩:=je3 h0;rw [h8] at h0⊢;simp only [Rx.k,Rx.s,Rx.ks] at*;subst e;simp only [okR,Rx.k,Rx.s,Rx.ks,Bool.and_eq_true,beq_iff_eq] at h3;obtain⟨hw,hz⟩:=h3
  have hno:∀ k':Int,k=k'->k'≠3->s=⟨0,0,0,0⟩:=by
   intro k' e he;subst e;rw [beq_eq_false_iff_ne.2 he] at hz;exact K65 (by simpa using hz.symm)
  rcases ks with _|⟨x,_|⟨y,_|⟨z,l⟩⟩⟩
  . have hk':k=1\/k=2\/k=3\/k=7\/k=8:=qO7 (by simpa using hw);simp only [xy6];rcases hk' with rfl|rfl|rfl|rfl|rfl
    . obtain rfl:=hno 1 rfl (by decide);exact⟨.none,⟨A,cap,rfl⟩,trivial,rfl,by simpa [Re.size] using h1,by simp [Re.deep];omega⟩
    . obtain rfl:=hno 2 rfl (by decide);exact⟨.empty,⟨A,cap,rfl⟩,trivial,rfl,by simpa [Re.size] using h1,by simp [Re.deep];omega⟩
    . have hz':s.zero=false:=(by simpa using hz);exact⟨.byte s,⟨hs,hz',A,cap,rfl⟩,hz',rfl,by simpa [Re.size] using h1,by simp [Re.deep];omega⟩
    . obtain rfl:=hno 7 rfl (by decide);exact⟨.beg,⟨A,cap,rfl⟩,trivial,rfl,by simpa [Re.size] using h1,by simp [Re.deep];omega⟩
    . obtain rfl:=hno 8 rfl (by decide);exact⟨.fin,⟨A,cap,rfl⟩,trivial,rfl,by simpa [Re.size] using h1,by simp [Re.deep];omega⟩
  . have hk':k=6:=yl1 (by simpa using hw);subst hk';obtain rfl:=hno 6 rfl (by decide);obtain⟨ad,ca,rfl,hc,hr⟩:=h7 0 x rfl;obtain⟨_,e',hb⟩:=h6 (by simp);injection e' with e';subst e';obtain⟨k0,k1⟩:=yR6 h0;rw [k1] at h0⊢;obtain⟨q,q1,q2,q3,q4,q5⟩:=JD0 n x ca (deep+1) (m+1) hr k0 h1;refine⟨.star q,⟨_,cap,ca,rfl,h4,h5,⟨ad,rfl,hb,hc⟩,q1⟩,q2,?_,?_,?_⟩
    . simp only [xy6,Re.size];rw [q3];omega
    . simp only [Re.size];omega
    . simp only [Re.deep];omega
  . have hk':k=4\/k=5:=zZ5 (by simpa using hw);obtain⟨ad,ca,rfl,hc,hr⟩:=h7 0 x rfl;obtain⟨_,e',hb⟩:=h6 (by simp);injection e' with e';subst e';obtain⟨_,cb,e',hc2,hr2⟩:=h7 1 y rfl;injection e' with e';subst e';obtain⟨k0,k1⟩:=yR6 h0;rw [k1] at h0⊢;obtain⟨q,q1,q2,q3,q4,q5⟩:=JD0 n x ca (deep+1) (m+1) hr k0 h1;obtain⟨k2,k3⟩:=yR6 h0;rw [k3] at h0⊢;simp only [q3] at k2 h0⊢;obtain⟨p,p1,p2,p3,p4,p5⟩:=JD0 n y cb (deep+1) (m+1+q.size) hr2 k2 q4;rcases hk' with rfl|rfl
    . obtain rfl:=hno 4 rfl (by decide);refine⟨.cat q p,⟨_,cap,ca,cb,rfl,h4,h5,⟨ad,rfl,hb,hc⟩,⟨ad,rfl,hb,hc2⟩,q1,p1⟩,⟨q2,p2⟩,?_,?_,?_⟩
      . simp only [xy6,Re.size];rw [p3];omega
      . simp only [Re.size];omega
      . simp only [Re.deep];omega
    . obtain rfl:=hno 5 rfl (by decide);refine⟨.alt q p,⟨_,cap,ca,cb,rfl,h4,h5,⟨ad,rfl,hb,hc⟩,⟨ad,rfl,hb,hc2⟩,q1,p1⟩,⟨q2,p2⟩,?_,?_,?_⟩
      . simp only [xy6,Re.size];rw [p3];omega
      . simp only [Re.size];omega
      . simp only [Re.deep];omega
  . exfalso
    have:=KE6 k;simp at hw;omega
theorem len6 {α:Type} {l:List α} (h:l.length=6):∃ a b c d e f,l= [a,b,c,d,e,f]:=by
 match l,h with
 | [a,b,c,d,e,f],_=>exact⟨a,b,c,d,e,f,rfl⟩
end
end Go.Proofs.YtngepacmgabmaaaGreatDoor
