/- An expression that came in as an argumen; Trees that the reading makes: what they  .. -/
import Derived.Test.YtngepacmgabmaaaGreatDoorGr
import Derived.Deep.RegionHeld
import Derived.Deep.LoopGhost
namespace Go.Proofs.YtngepacmgabmaaaGreatDoor
open Go.RowKit
set_option linter.unusedVariables false
set_option linter.unusedSimpArgs false
section
open Go.ChangeShapes Go.WideShapes Go.RowKit Go.Joins
theorem RxC.grow_ {w:World} {B B':Nat} (hB:B<=B'):∀ {n:Nat} {r:Rx} {cs:List Value},RxC w B n r cs->RxC w B' n r cs
 |0,_,_,h=>h
 |n+1,r,cs,⟨h1,h2,A,cap,h3,h4,h5,h6,h7⟩=>⟨h1,h2,A,cap,h3,h4,h5,λ hl=>by
  obtain⟨ad,e,hb⟩:=h6 hl;exact⟨ad,e,by omega⟩,λ i x hi=>by
  obtain⟨ad,cs',e,hc,hr⟩:=h7 i x hi;exact⟨ad,cs',e,hc,RxC.grow_ hB hr⟩⟩
theorem RxC.grow {w:World} {B B':Nat} {n:Nat} {r:Rx} {cs:List Value} (h:RxC w B n r cs) (hB:B<=B'):RxC w B' n r cs:=RxC.grow_ hB h
theorem At6.grow {w:World} {B B' i:Nat} {A:Option Addr} {cs:List Value} (hB:B<=B') (h:At6 w B A i cs):At6 w B' A i cs:=by
 obtain⟨ad,e,hb,hc⟩:=h;exact⟨ad,e,by omega,hc⟩
theorem ReC.grow_ {w:World} {B B':Nat} (hB:B<=B'):∀ {q:Re} {cs:List Value},ReC w B q cs->ReC w B' q cs
 | .none,_,h=>h
 | .empty,_,h=>h
 | .byte _,_,h=>h
 | .beg,_,h=>h
 | .fin,_,h=>h
 | .cat a b,_,⟨A,cap,ca,cb,h1,h2,h3,h4,h5,h6,h7⟩=>⟨A,cap,ca,cb,h1,h2,h3,h4.grow hB,h5.grow hB,ReC.grow_ hB h6,ReC.grow_ hB h7⟩
 | .alt a b,_,⟨A,cap,ca,cb,h1,h2,h3,h4,h5,h6,h7⟩=>⟨A,cap,ca,cb,h1,h2,h3,h4.grow hB,h5.grow hB,ReC.grow_ hB h6,ReC.grow_ hB h7⟩
 | .star a,_,⟨A,cap,ca,h1,h2,h3,h4,h5⟩=>⟨A,cap,ca,h1,h2,h3,h4.grow hB,ReC.grow_ hB h5⟩
theorem ReC.grow {w:World} {B B':Nat} {q:Re} {cs:List Value} (h:ReC w B q cs) (hB:B<=B'):ReC w B' q cs:=ReC.grow_ hB h
end
def RxT (w:World) (P:Nat->Prop):Nat->Rx->List Value->Prop
 |0,_,_=>False
 |n+1,r,cs=>r.s.ok/\r.ks.length<=2/\(-9223372036854775808<=r.k/\r.k<=9223372036854775807)/\∃ (A:Option Addr) (cap:Nat),cs=ZF1 r.k r.s A r.ks.length cap/\r.ks.length<=cap/\cap<=9223372036854775807/\
  (0<r.ks.length->∃ ad,A=some ad/\P ad.block)/\
  ∀ i x,r.ks[i]? =some x->∃ ad cs',A=some ad/\(∀ j u,cs'[j]? =some u->w.cell? (ad.add (i*6+j))=some u)/\RxT w P n x cs'
theorem RxT.rxC {w:World} {P:Nat->Prop} {B:Nat} (hP:∀ b,P b->b<B):∀ {n:Nat} {r:Rx} {cs:List Value},RxT w P n r cs->RxC w B n r cs
 |0,_,_,h=>h
 |n+1,r,cs,⟨h1,_,h2,A,cap,h3,h4,h5,h6,h7⟩=>⟨h1,h2,A,cap,h3,h4,h5,λ h=>by
  obtain⟨ad,e,hb⟩:=h6 h;exact⟨ad,e,hP _ hb⟩,λ i x hi=>by
  obtain⟨ad,cs',e,hc,hr⟩:=h7 i x hi;exact⟨ad,cs',e,hc,RxT.rxC hP hr⟩⟩
theorem RxT.keep {w w':World} {P Q:Nat->Prop} (hh:∀ b,P b->Q b) (hk:∀ p:Addr,P p.block->w'.cell? p=w.cell? p):∀ {n:Nat} {r:Rx} {cs:List Value},RxT w P n r cs->RxT w' Q n r cs
 |0,_,_,h=>h
 |n+1,r,cs,⟨h1,h0,h2,A,cap,h3,h4,h5,h6,h7⟩=>⟨h1,h0,h2,A,cap,h3,h4,h5,λ h=>by
  obtain⟨ad,e,hb⟩:=h6 h;exact⟨ad,e,hh _ hb⟩,λ i x hi=>by
  obtain⟨ad,cs',e,hc,hr⟩:=h7 i x hi
  obtain⟨ad',e',hb⟩:=h6 (by
   rcases Nat.eq_zero_or_pos r.ks.length with h|h
   . rw [List.getElem?_eq_none (by omega)] at hi;cases hi
   . exact h)
  rw [e] at e';injection e' with e';subst e';exact⟨ad,cs',e,λ j u hu=>(hk _ (by rw [ZE9];exact hb)).trans (hc j u hu),RxT.keep hh hk hr⟩⟩
theorem RxT.weak {w:World} {P Q:Nat->Prop} (hh:∀ b,P b->Q b) {n:Nat} {r:Rx} {cs:List Value} (h:RxT w P n r cs):RxT w Q n r cs:=h.keep hh λ _ _=>rfl
theorem KeptOff.cell {w w':World} {g:Nat} (h:KeptOff w w' g) {p:Addr} (hp:p.block<w.heap.size) (hne:p.block≠g):w'.cell? p=w.cell? p:=by
 have hb:=h.block p.block hp (by intro e;injection e with e;exact hne e);unfold World.cell?;rw [hb]
theorem RxT.off {w w':World} {P:Nat->Prop} {g n:Nat} {r:Rx} {cs:List Value} (h:RxT w P n r cs) (hk:KeptOff w w' g) (hP:∀ b,P b->b<w.heap.size/\b≠g):RxT w' P n r cs:=
 h.keep (λ _ hb=>hb) λ p hp=>hk.cell (hP _ hp).1 (hP _ hp).2
theorem RxT.below {w w':World} {P:Nat->Prop} {n:Nat} {r:Rx} {cs:List Value} (h:RxT w P n r cs) (hb:Below w.heap.size w w') (hP:∀ b,P b->b<w.heap.size):RxT w' P n r cs:=
 h.keep (λ _ hb=>hb) λ p hp=>hb.cell (hP _ hp)
theorem RxT.store {w:World} {P:Nat->Prop} {n:Nat} {r:Rx} {cs:List Value} (h:RxT w P n r cs) {p:Addr} (hp:¬P p.block) (u:Value):RxT (w.setCell p u) P n r cs:=
 h.keep (λ _ hb=>hb) λ q hq=>World.cell?_setCell_far w p q u (λ e=>hp (by rw [e];exact hq))
theorem RxT.up {w:World} {P:Nat->Prop}:∀ {n:Nat} {r:Rx} {cs:List Value} {m:Nat},n<=m->RxT w P n r cs->RxT w P m r cs
 |0,_,_,_,_,h=>h.elim
 |n+1,r,cs,0,hm,_=>absurd hm (by omega)
 |n+1,r,cs,m+1,hm,⟨h1,h0,h2,A,cap,h3,h4,h5,h6,h7⟩=>⟨h1,h0,h2,A,cap,h3,h4,h5,h6,λ i x hi=>by
  obtain⟨ad,cs',e,hc,hr⟩:=h7 i x hi;exact⟨ad,cs',e,hc,RxT.up (by omega) hr⟩⟩
theorem q30:zq.ok:=⟨by decide,by decide,by decide,by decide⟩
def six (x0 x1 x2 x3 x4:Int) (A:Option Addr) (l c:Nat):List Value:= [.int .i64 x0,.int .u64 x1,.int .u64 x2,.int .u64 x3,.int .u64 x4,.slice A l c]
theorem RxT.leaf (w:World) (P:Nat->Prop) (k:Int) (q:Q4) (hq:q.ok) (h0: -9223372036854775808<=k) (h1:k<=9223372036854775807):RxT w P 1 (.mk k q []) (six k q.a q.b q.c q.d none 0 0):=
 ⟨hq,Nat.zero_le _,⟨h0,h1⟩,none,0,rfl,Nat.le_refl _,by omega,λ h=>absurd h (by simp [Rx.ks]),λ i x hi=>by simp [Rx.ks] at hi⟩
theorem add0 (N j:Nat):(⟨N,0,none⟩:Addr).add j=⟨N,j,none⟩:=by
 by_cases h:j=0
 . subst h;rfl
 . simp [Addr.add,h]
theorem RxT.two {w:World} {P:Nat->Prop} {n N:Nat} {a b:Rx} {ca cb:List Value} (ha:RxT w P n a ca) (hb:RxT w P n b cb) (hca:ca.length=6) (hN:P N)
 (hc:∀ j u,(ca++cb)[j]? =some u->w.cell? ⟨N,j,none⟩=some u) (k:Int) (h0: -9223372036854775808<=k) (h1:k<=9223372036854775807):RxT w P (n+1) (jG1 k a b) (six k 0 0 0 0 (some ⟨N,0,none⟩) 2 2):=by
 refine⟨q30,Nat.le_refl _,⟨h0,h1⟩,some ⟨N,0,none⟩,2,rfl,Nat.le_refl _,by omega,λ _=>⟨_,rfl,hN⟩,λ i x hi=> ?_⟩;simp only [jG1,Rx.ks] at hi;match i,hi with
 |0,hi=>
  cases hi;refine⟨_,ca,rfl,λ j u hu=> ?_,ha⟩;have hj:=(List.getElem?_eq_some_iff.1 hu).1;have:=hc j u (by rw [List.getElem?_append_left hj];exact hu);rw [Nat.zero_mul,Nat.zero_add,add0];exact this
 |1,hi=>
  cases hi;refine⟨_,cb,rfl,λ j u hu=> ?_,hb⟩;have:=hc (6+j) u (by rw [List.getElem?_append_right (by omega),hca,Nat.add_sub_cancel_left];exact hu);rw [add0,Nat.one_mul];exact this
theorem RxT.star {w:World} {P:Nat->Prop} {n N:Nat} {a:Rx} {ca:List Value} (ha:RxT w P n a ca) (hN:P N)
 (hc:∀ j u,ca[j]? =some u->w.cell? ⟨N,j,none⟩=some u):RxT w P (n+1) (j41 a) (six 6 0 0 0 0 (some ⟨N,0,none⟩) 1 1):=by
 refine⟨q30,(show 1<=2 by omega),⟨by show-9223372036854775808<=(6:Int);decide,by show (6:Int)<=9223372036854775807;decide⟩,some ⟨N,0,none⟩,1,rfl,Nat.le_refl _,by omega,λ _=>⟨_,rfl,hN⟩,λ i x hi=> ?_⟩;simp only [j41,Rx.ks] at hi;match i,hi with
 |0,hi=>
  cases hi;refine⟨_,ca,rfl,λ j u hu=> ?_,ha⟩;rw [Nat.zero_mul,Nat.zero_add,add0];exact hc j u hu
theorem RxT.len {w:World} {P:Nat->Prop} {n:Nat} {r:Rx} {cs:List Value} (h:RxT w P n r cs):cs.length=6:=by
 cases n with
 |zero=>exact h.elim
 |succ n=>obtain⟨_,_,_,A,cap,e,_⟩:=h;rw [e];rfl
theorem Y38 (w:World) (cs:List Value) (t:TypeId) (j:Nat) (u:Value) (h:cs[j]? =some u):(w.alloc (.cells cs.toArray t)).cell? ⟨w.heap.size,j,none⟩=some u:=by
 have:=(Blk.new w t cs.toArray).cell j;rw [this];simpa using h
section
variable (k x0 x1 x2 x3 x4 y0 y1 y2 y3 y4:Int) (A B:Option Addr) (l c m d:Nat) (w:World)
def zk6 (k:Int) (ca cb:List Value) (w:World) (e:Ending) (w':World):Prop:=∃ N,e= .returned (.agg #[.int .i64 k,.int .u64 0,.int .u64 0,.int .u64 0,.int .u64 0,.slice (some ⟨N,0,none⟩) 2 2])/\(∀ j u,(ca++cb)[j]? =some u->w'.cell? ⟨N,j,none⟩=some u)/\w.heap.size<=N/\N<w'.heap.size/\Below w.heap.size w w'
theorem qG3:Calls Tryz.prog 159 #[.int .i64 k,.agg #[.int .i64 x0,.int .u64 x1,.int .u64 x2,.int .u64 x3,.int .u64 x4,.slice A l c],.agg #[.int .i64 y0,.int .u64 y1,.int .u64 y2,.int .u64 y3,.int .u64 y4,.slice B m d]] w (zk6 k (six x0 x1 x2 x3 x4 A l c) (six y0 y1 y2 y3 y4 B m d) w):=by
 go_enter Tryz.func159,Tryz.ntmps159;go_wp2_with fail;obtain⟨W1,h1⟩:∃ W1,w.alloc (.cells #[.int .i64 x0,.int .u64 x1,.int .u64 x2,.int .u64 x3,.int .u64 x4,.slice A l c] 125)=W1:=⟨_,rfl⟩;rw [h1];obtain⟨W2,h2⟩:∃ W2,W1.alloc (.cells #[.int .i64 y0,.int .u64 y1,.int .u64 y2,.int .u64 y3,.int .u64 y4,.slice B m d] 125)=W2:=⟨_,rfl⟩;rw [h2];obtain⟨W3,h3⟩:∃ W3,W2.alloc (.cells #[.int .i64 k,.int .u64 0,.int .u64 0,.int .u64 0,.int .u64 0,.slice (some ⟨w.heap.size+1+1+1,0,none⟩) 2 2] 125)=W3:=⟨_,rfl⟩;rw [h3];obtain⟨W4,h4⟩:∃ W4,W3.alloc (.cells #[.int .i64 x0,.int .u64 x1,.int .u64 x2,.int .u64 x3,.int .u64 x4,.slice A l c,.int .i64 y0,.int .u64 y1,.int .u64 y2,.int .u64 y3,.int .u64 y4,.slice B m d] 125)=W4:=⟨_,rfl⟩;rw [h4];have s1:W1.heap.size=w.heap.size+1:=by rw [<-h1];simp
 have s2:W2.heap.size=w.heap.size+1+1:=by rw [<-h2];simp [s1]
 have s3:W3.heap.size=w.heap.size+1+1+1:=by rw [<-h3];simp [s2]
 have s4:W4.heap.size=w.heap.size+1+1+1+1:=by rw [<-h4];simp [s3]
 have hres:Blk W4 (w.heap.size+1+1) 125 #[.int .i64 k,.int .u64 0,.int .u64 0,.int .u64 0,.int .u64 0,.slice (some ⟨w.heap.size+1+1+1,0,none⟩) 2 2]:=by
  rw [<-h4];refine Blk.alloc ?_ _;have:=Blk.new W2 125 #[.int .i64 k,.int .u64 0,.int .u64 0,.int .u64 0,.int .u64 0,.slice (some ⟨w.heap.size+1+1+1,0,none⟩) 2 2];rw [h3,s2] at this;exact this
 have hL:∀ j u,(six x0 x1 x2 x3 x4 A l c++six y0 y1 y2 y3 y4 B m d)[j]? =some u->W4.cell? ⟨w.heap.size+1+1+1,j,none⟩=some u:=λ j u h=>by
  have:=Y38 W3 [.int .i64 x0,.int .u64 x1,.int .u64 x2,.int .u64 x3,.int .u64 x4,.slice A l c,.int .i64 y0,.int .u64 y1,.int .u64 y2,.int .u64 y3,.int .u64 y4,.slice B m d] 125 j u h;rw [s3] at this;rw [<-h4];exact this
 have hb:Below w.heap.size w W4:=by
  rw [<-h4,<-h3,<-h2,<-h1];exact((((Below.refl _ _).alloc (Nat.le_refl _) _).alloc (by simp) _).alloc (by simp;omega) _).alloc (by simp;omega) _
 obtain⟨z0,z1,z2,z3,z4,z5⟩:=Blk.c6 hres;clear h1 h2 h3 h4 hres;refine bodyPost_ret (v:= .agg #[.int .i64 k,.int .u64 0,.int .u64 0,.int .u64 0,.int .u64 0,.slice (some ⟨w.heap.size+1+1+1,0,none⟩) 2 2]) (by simp [results,Tryz.results159,go_sem,z0,z1,z2,z3,z4,z5]) rfl ⟨w.heap.size+1+1+1,rfl,hL,by omega,by omega,hb⟩
theorem yF4:Calls Tryz.prog 215 #[.int .i64 k] w λ e w'=>e= .returned (.agg #[.int .i64 k,.int .u64 0,.int .u64 0,.int .u64 0,.int .u64 0,.slice none 0 0])/\Below w.heap.size w w':=by
 go_enter Tryz.func215,Tryz.ntmps215;go_wp2_with fail;obtain⟨W1,h1⟩:∃ W1,w.alloc (.cells #[.int .i64 k,.int .u64 0,.int .u64 0,.int .u64 0,.int .u64 0,.slice none 0 0] 125)=W1:=⟨_,rfl⟩;rw [h1];have hres:Blk W1 w.heap.size 125 #[.int .i64 k,.int .u64 0,.int .u64 0,.int .u64 0,.int .u64 0,.slice none 0 0]:=by rw [<-h1];exact Blk.new _ _ _
 have hb:Below w.heap.size w W1:=by rw [<-h1];exact(Below.refl _ _).alloc (Nat.le_refl _) _
 obtain⟨z0,z1,z2,z3,z4,z5⟩:=Blk.c6 hres;clear h1 hres;refine bodyPost_ret (v:= .agg #[.int .i64 k,.int .u64 0,.int .u64 0,.int .u64 0,.int .u64 0,.slice none 0 0]) (by simp [results,Tryz.results215,go_sem,z0,z1,z2,z3,z4,z5]) rfl ⟨rfl,hb⟩
end
def PaRes (s:ByteArray) (op:Int) (g:Nat) (t:Rx×Sx) (w:World) (e:Ending) (w':World):Prop:=∃ (x0 x1 x2 x3 x4:Int) (xA:Option Addr) (xl xc:Nat),e= .returned (.agg #[.int .i64 x0,.int .u64 x1,.int .u64 x2,.int .u64 x3,.int .u64 x4,.slice xA xl xc])/\Rd w' g s t.2 op/\KeptOff w w' g/\(t.2.e=0->∃ n,RxT w' (λ b=>w.heap.size<=b/\b<w'.heap.size) n t.1 (six x0 x1 x2 x3 x4 xA xl xc))
def J11 (F:FuncId) (op:Int) (s:ByteArray) (f:Sx->Rx×Sx):Prop:=∀ (g:Nat) (w:World) (x:Sx),x.e=0->x.p<=s.size->Rd w g s x op->Calls Tryz.prog F #[.pointer (some ⟨g,0,none⟩)] w (PaRes s op g (f x) w)
def Go0 (s:ByteArray) (f:Sx->Rx×Sx):Prop:=∀ x:Sx,x.e=0->x.p<=s.size->(f x).2.p<=s.size/\x.p<=(f x).2.p
structure Tx (w:World) (g gT:Nat) (s:ByteArray) (y:Sx) (op:Int) (cs:List Value) (wr:World):Prop where
 rd:Rd wr g s y op
 re:Blk wr w.heap.size 125 #[.int .i64 0,.int .u64 0,.int .u64 0,.int .u64 0,.int .u64 0,.slice none 0 0]
 te:Blk wr gT 125 cs.toArray
 ko:KeptOff w wr g
 lt:g<w.heap.size
 gl:w.heap.size<gT
section
variable {w wr wr':World} {g gT:Nat} {s:ByteArray} {y y':Sx} {op:Int} {cs:List Value}
theorem Tx.step (h:Tx w g gT s y op cs wr) (hb:Below wr.heap.size wr wr'):Tx w g gT s y op cs wr':=⟨h.rd.below hb,Blk.below h.re hb (Blk.lt h.re),Blk.below h.te hb (Blk.lt h.te),h.ko.tr (KeptOff.of_below hb),h.lt,h.gl⟩
theorem Tx.kept (h:Tx w g gT s y op cs wr) (hr:Rd wr' g s y' op) (hk:KeptOff wr wr' g):Tx w g gT s y' op cs wr':=⟨hr,hk.blk h.re (by have:=h.lt;omega),hk.blk h.te (by have:=h.lt;have:=h.gl;omega),h.ko.tr hk,h.lt,h.gl⟩
def InT (w:World) (gT:Nat) (wr:World) (b:Nat):Prop:=w.heap.size<b/\b<wr.heap.size/\b≠gT
theorem J42 {w:World} {g:Nat} {cs:List Value} (h:Blk w g 125 cs.toArray) (hl:cs.length=6) (x0 x1 x2 x3 x4:Int) (xA:Option Addr) (xl xc:Nat):Blk ((((((w.setCell ⟨g,0,none⟩ (.int .i64 x0)).setCell ⟨g,1,none⟩ (.int .u64 x1)).setCell ⟨g,2,none⟩ (.int .u64 x2)).setCell ⟨g,3,none⟩ (.int .u64 x3)).setCell ⟨g,4,none⟩ (.int .u64 x4)).setCell ⟨g,5,none⟩ (.slice xA xl xc)) g 125 #[.int .i64 x0,.int .u64 x1,.int .u64 x2,.int .u64 x3,.int .u64 x4,.slice xA xl xc]:=by
 obtain⟨a0,a1,a2,a3,a4,a5,rfl⟩:=len6 hl;exact(((((h.set_ 0 _).set_ 1 _).set_ 2 _).set_ 3 _).set_ 4 _).set_ 5 _
theorem Blk.far6 {w:World} {g g':Nat} {t:TypeId} {cs:Array Value} (h:Blk w g' t cs) (hne:g≠g') (x0 x1 x2 x3 x4:Int) (xA:Option Addr) (xl xc:Nat):Blk ((((((w.setCell ⟨g,0,none⟩ (.int .i64 x0)).setCell ⟨g,1,none⟩ (.int .u64 x1)).setCell ⟨g,2,none⟩ (.int .u64 x2)).setCell ⟨g,3,none⟩ (.int .u64 x3)).setCell ⟨g,4,none⟩ (.int .u64 x4)).setCell ⟨g,5,none⟩ (.slice xA xl xc)) g' t cs:=(((((h.far (by dsimp only;omega) _).far (by dsimp only;omega) _).far (by dsimp only;omega) _).far (by dsimp only;omega) _).far (by dsimp only;omega) _).far (by dsimp only;omega) _
theorem KeptOff.put6 {w wr:World} {g g':Nat} (h:KeptOff w wr g) (hg:w.heap.size<=g') (x0 x1 x2 x3 x4:Int) (xA:Option Addr) (xl xc:Nat):KeptOff w ((((((wr.setCell ⟨g',0,none⟩ (.int .i64 x0)).setCell ⟨g',1,none⟩ (.int .u64 x1)).setCell ⟨g',2,none⟩ (.int .u64 x2)).setCell ⟨g',3,none⟩ (.int .u64 x3)).setCell ⟨g',4,none⟩ (.int .u64 x4)).setCell ⟨g',5,none⟩ (.slice xA xl xc)) g:=(((((h.new_ (p:=⟨g',0,none⟩) hg _).new_ (p:=⟨g',1,none⟩) hg _).new_ (p:=⟨g',2,none⟩) hg _).new_ (p:=⟨g',3,none⟩) hg _).new_ (p:=⟨g',4,none⟩) hg _).new_ (p:=⟨g',5,none⟩) hg _
theorem RxT.put6 {w:World} {P:Nat->Prop} {n:Nat} {r:Rx} {cs:List Value} (h:RxT w P n r cs) {g:Nat} (hg:¬P g) (x0 x1 x2 x3 x4:Int) (xA:Option Addr) (xl xc:Nat):RxT ((((((w.setCell ⟨g,0,none⟩ (.int .i64 x0)).setCell ⟨g,1,none⟩ (.int .u64 x1)).setCell ⟨g,2,none⟩ (.int .u64 x2)).setCell ⟨g,3,none⟩ (.int .u64 x3)).setCell ⟨g,4,none⟩ (.int .u64 x4)).setCell ⟨g,5,none⟩ (.slice xA xl xc)) P n r cs:=(((((h.store (p:=⟨g,0,none⟩) hg _).store (p:=⟨g,1,none⟩) hg _).store (p:=⟨g,2,none⟩) hg _).store (p:=⟨g,3,none⟩) hg _).store (p:=⟨g,4,none⟩) hg _).store (p:=⟨g,5,none⟩) hg _
theorem j80 (w:World) (g:Nat) (x0 x1 x2 x3 x4:Int) (xA:Option Addr) (xl xc:Nat):(((((((w.setCell ⟨g,0,none⟩ (.int .i64 x0)).setCell ⟨g,1,none⟩ (.int .u64 x1)).setCell ⟨g,2,none⟩ (.int .u64 x2)).setCell ⟨g,3,none⟩ (.int .u64 x3)).setCell ⟨g,4,none⟩ (.int .u64 x4)).setCell ⟨g,5,none⟩ (.slice xA xl xc))).heap.size=w.heap.size:=by simp [World.setCell]
theorem Tx.put (h:Tx w g gT s y op cs wr) (hl:cs.length=6) (x0 x1 x2 x3 x4:Int) (xA:Option Addr) (xl xc:Nat):Tx w g gT s y op (six x0 x1 x2 x3 x4 xA xl xc) ((((((wr.setCell ⟨gT,0,none⟩ (.int .i64 x0)).setCell ⟨gT,1,none⟩ (.int .u64 x1)).setCell ⟨gT,2,none⟩ (.int .u64 x2)).setCell ⟨gT,3,none⟩ (.int .u64 x3)).setCell ⟨gT,4,none⟩ (.int .u64 x4)).setCell ⟨gT,5,none⟩ (.slice xA xl xc)):=⟨Blk.far6 h.rd (by have:=h.lt;have:=h.gl;omega) x0 x1 x2 x3 x4 xA xl xc,Blk.far6 h.re (by have:=h.gl;omega) x0 x1 x2 x3 x4 xA xl xc,J42 h.te hl x0 x1 x2 x3 x4 xA xl xc,h.ko.put6 (by have:=h.gl;omega) x0 x1 x2 x3 x4 xA xl xc,h.lt,h.gl⟩
end
theorem Km1 {s:ByteArray} {A:Sx->Rx×Sx} {t:Rx} {x:Sx} (m:Nat) (h:¬nx s x=124):lpA s A m t x=(t,x):=by
 cases m with
 |zero=>rfl
 |succ m=>rw [lpA,if_neg h]
theorem z86 {s:ByteArray} {A:Sx->Rx×Sx} {t:Rx} {x:Sx} {m:Nat} (h:nx s x=124):lpA s A (m+1) t x=lpA s A m (jG1 5 t (A x.up).1) (A x.up).2:=by rw [lpA,if_pos h]
set_option maxRecDepth 100000 in
set_option maxHeartbeats 8000000 in
theorem zU1 (s:ByteArray) (hs:s.size<=200) (op:Int) (R:Sx->Rx×Sx) (hRow:J11 157 op s R) (hGo:Go0 s R):J11 132 op s (atF s R):=by
 intro g w x he hp hR;have HROW:=qh hRow;have HGO:=qh hGo;clear hRow hGo;obtain⟨W,hW⟩:∃ W,w.alloc (.cells #[.int .i64 0,.int .u64 0,.int .u64 0,.int .u64 0,.int .u64 0,.slice none 0 0] 125)=W:=⟨_,rfl⟩;have hWR:Rd W g s x op:=by rw [<-hW];exact Blk.alloc hR _
 have hWE:Blk W w.heap.size 125 #[.int .i64 0,.int .u64 0,.int .u64 0,.int .u64 0,.int .u64 0,.slice none 0 0]:=by rw [<-hW];exact Blk.new w _ _
 have hWK:KeptOff w W g:=by rw [<-hW];exact KeptOff.refl.alloc _
 have hglt:g<w.heap.size:=Blk.lt hR;have hWz:W.heap.size=w.heap.size+1:=by rw [<-hW];simp
 have C0:=qh (HROW.out g W x he hp hWR);have HWE:=qh hWE;have HWK:=qh hWK;have hY0:=HGO.out x he hp;obtain⟨F,hF⟩:∃ F,F=atF s R x:=⟨_,rfl⟩;rw [<-hF];have hFx:F=lpA s R (s.size+1) (R x).1 (R x).2:=hF;obtain⟨Y0,hY⟩:∃ Y0,Y0=R x:=⟨_,rfl⟩;rw [<-hY] at C0 hFx hY0;have HF:=qh hFx;clear hWR hWE hWK hR hF hFx hY;go_enter Tryz.func132,Tryz.ntmps132;go_wp2_with fail;refine C0.out.mono ?_;rintro e w1 ⟨x0,x1,x2,x3,x4,xA,xl,xc,rfl,hr1,hk1,ht1⟩;have hz1:w.heap.size+1<=w1.heap.size:=by have:=hk1.size;omega
 have hX1:Tx w g w1.heap.size s Y0.2 op (six x0 x1 x2 x3 x4 xA xl xc) (w1.alloc (.cells #[.int .i64 x0,.int .u64 x1,.int .u64 x2,.int .u64 x3,.int .u64 x4,.slice xA xl xc] 125)):=⟨Blk.alloc hr1 _,Blk.alloc (hk1.blk HWE.out (by omega)) _,Blk.new w1 _ _,(HWK.out.tr hk1).alloc _,hglt,by omega⟩
 have HT1:Hid (Y0.2.e=0->∃ n,RxT (w1.alloc (.cells #[.int .i64 x0,.int .u64 x1,.int .u64 x2,.int .u64 x3,.int .u64 x4,.slice xA xl xc] 125)) (InT w w1.heap.size (w1.alloc (.cells #[.int .i64 x0,.int .u64 x1,.int .u64 x2,.int .u64 x3,.int .u64 x4,.slice xA xl xc] 125))) n Y0.1 (six x0 x1 x2 x3 x4 xA xl xc)):=qh λ hy=>by
  obtain⟨n,hn⟩:=ht1 hy;refine⟨n,(hn.below ((Below.refl _ _).alloc (Nat.le_refl _) _) λ b hb=>hb.2).weak λ b hb=>⟨by omega,by simp;omega,by omega⟩⟩
 have HX1:=qh hX1;clear hX1 hr1 hk1 ht1 hW hWz;go_wp2_with fail;obtain⟨gT,hgT⟩:∃ gT,w1.heap.size=gT:=⟨_,rfl⟩;rw [hgT] at HX1 HT1⊢;obtain⟨W1,hW1⟩:∃ W1,w1.alloc (.cells #[.int .i64 x0,.int .u64 x1,.int .u64 x2,.int .u64 x3,.int .u64 x4,.slice xA xl xc] 125)=W1:=⟨_,rfl⟩;rw [hW1] at HX1 HT1⊢;clear hW1 hgT hz1
 go_loopg [7] (s.size+1) (λ q _ wr=>∃ (m:Nat) (t:Rx) (y:Sx) (x0 x1 x2 x3 x4:Int) (xA:Option Addr) (xl xc:Nat),q=m/\y.p<=s.size/\(y.e=0->s.size-y.p<m)/\Hid (F=lpA s R m t y)/\Hid (Tx w g gT s y op (six x0 x1 x2 x3 x4 xA xl xc) wr)/\Hid (y.e=0->∃ n,RxT wr (InT w gT wr) n t (six x0 x1 x2 x3 x4 xA xl xc)))
 case atStart=>exact⟨s.size+1,Y0.1,Y0.2,x0,x1,x2,x3,x4,xA,xl,xc,rfl,hY0.1,λ _=>by omega,HF,HX1,HT1⟩
 case round=>
  clear HX1 HT1 HF;obtain⟨m,t,y,x0,x1,x2,x3,x4,xA,xl,xc,hqm,hyp,hq,HFq,HX,HT⟩:=hrel;have HG:=qh hqm;clear hqm;have CT:=k06 s hs y op g wr 124 hyp HX.out.rd;by_cases h124:nx s y=124
  . have hys:=Jo0 (s:=s) (x:=y) (by omega);obtain⟨m,rfl⟩:∃ m',m=m'+1:=⟨m-1,by have:=hq hys.1;omega⟩;have hup:=kx8 (s:=s) (x:=y) (by omega);have hue:y.up.e=0:=hys.1;have hF2:F=lpA s R m (jG1 5 t (R y.up).1) (R y.up).2:=HFq.out.trans (z86 h124);rw [show tkX s y 124=y.up from if_pos h124,show (nx s y==124)=true from beq_iff_eq.2 h124] at CT;have hY2:=HGO.out y.up hue hup.hi;have CR:=λ w' (hr:Rd w' g s y.up op)=>HROW.out g w' y.up hue hup.hi hr
    obtain⟨Y2,hY2e⟩:∃ Y2,Y2=R y.up:=⟨_,rfl⟩;rw [<-hY2e] at CR hF2 hY2;have CR:=qh CR;have HF2:=qh hF2;have CT:=qh CT;have hTy:=HT.out hys.1;have hyq:=hq hys.1;have hup1:y.up.p=y.p+1:=rfl;have hys2:=hys.2;clear hF2 hY2e h124 hq hys;go_wp2_with fail;refine CT.out.mono ?_;rintro e w2 ⟨rfl,hr2,hk2⟩;have HX2:=qh (HX.out.kept hr2 hk2)
    have HT2:Hid (∃ n,RxT w2 (InT w gT w2) n t (six x0 x1 x2 x3 x4 xA xl xc)):=qh (by
     obtain⟨n,hn⟩:=hTy;exact⟨n,(hn.off hk2 λ b hb=>⟨hb.2.1,by have:=hb.1;omega⟩).weak λ b hb=>⟨hb.1,Nat.lt_of_lt_of_le hb.2.1 hk2.size,hb.2.2⟩⟩)
    clear hr2 hk2 hTy;have hxd:=HX2.out.step (below_drewN (Below.refl _ _) 1:Below w2.heap.size w2 w2.drew)
    have HTd:Hid (∃ n,RxT w2.drew (InT w gT w2.drew) n t (six x0 x1 x2 x3 x4 xA xl xc)):=qh (by
     obtain⟨n,hn⟩:=HT2.out;exact⟨n,RxT.keep (w:=w2) (w':=w2.drew) (P:=InT w gT w2) (Q:=InT w gT w2.drew) (λ _ hb=>hb) (λ _ _=>rfl) hn⟩)
    have s0:w2.drew.cell? ⟨gT,0,none⟩=some (.int .i64 x0):=hxd.te.cell 0;have fs0:w2.drew.frozen? ⟨gT,0,none⟩=false:=hxd.te.frozen 0;have s1:w2.drew.cell? ⟨gT,1,none⟩=some (.int .u64 x1):=hxd.te.cell 1;have fs1:w2.drew.frozen? ⟨gT,1,none⟩=false:=hxd.te.frozen 1;have s2:w2.drew.cell? ⟨gT,2,none⟩=some (.int .u64 x2):=hxd.te.cell 2;have fs2:w2.drew.frozen? ⟨gT,2,none⟩=false:=hxd.te.frozen 2;have s3:w2.drew.cell? ⟨gT,3,none⟩=some (.int .u64 x3):=hxd.te.cell 3;have fs3:w2.drew.frozen? ⟨gT,3,none⟩=false:=hxd.te.frozen 3;have s4:w2.drew.cell? ⟨gT,4,none⟩=some (.int .u64 x4):=hxd.te.cell 4;have fs4:w2.drew.frozen? ⟨gT,4,none⟩=false:=hxd.te.frozen 4;have s5:w2.drew.cell? ⟨gT,5,none⟩=some (.slice xA xl xc):=hxd.te.cell 5;have fs5:w2.drew.frozen? ⟨gT,5,none⟩=false:=hxd.te.frozen 5;go_wp2_with fail
    go_region_law (first
     |(go_simp;go_at_call 157;(refine(CR.out _ hxd.rd).mono ?_);rintro e w3 ⟨v0,v1,v2,v3,v4,vA,vl,vc,rfl,hr3,hk3,ht3⟩;have hx3:=hxd.kept hr3 hk3;have u0:w3.cell? ⟨gT,0,none⟩=some (.int .i64 x0):=hx3.te.cell 0;have fu0:w3.frozen? ⟨gT,0,none⟩=false:=hx3.te.frozen 0;have u1:w3.cell? ⟨gT,1,none⟩=some (.int .u64 x1):=hx3.te.cell 1;have fu1:w3.frozen? ⟨gT,1,none⟩=false:=hx3.te.frozen 1;have u2:w3.cell? ⟨gT,2,none⟩=some (.int .u64 x2):=hx3.te.cell 2;have fu2:w3.frozen? ⟨gT,2,none⟩=false:=hx3.te.frozen 2;have u3:w3.cell? ⟨gT,3,none⟩=some (.int .u64 x3):=hx3.te.cell 3;have fu3:w3.frozen? ⟨gT,3,none⟩=false:=hx3.te.frozen 3;have u4:w3.cell? ⟨gT,4,none⟩=some (.int .u64 x4):=hx3.te.cell 4;have fu4:w3.frozen? ⟨gT,4,none⟩=false:=hx3.te.frozen 4;have u5:w3.cell? ⟨gT,5,none⟩=some (.slice xA xl xc):=hx3.te.cell 5;have fu5:w3.frozen? ⟨gT,5,none⟩=false:=hx3.te.frozen 5)
     |(go_simp;go_at_call 159;(refine(qG3 5 x0 x1 x2 x3 x4 v0 v1 v2 v3 v4 xA vA xl xc vl vc _).mono ?_);rintro e w4 ⟨N,rfl,hc4,hN1,hN2,hb4⟩;have hx4:=hx3.step hb4;have q0:w4.cell? ⟨gT,0,none⟩=some (.int .i64 x0):=hx4.te.cell 0;have fq0:w4.frozen? ⟨gT,0,none⟩=false:=hx4.te.frozen 0;have q1:w4.cell? ⟨gT,1,none⟩=some (.int .u64 x1):=hx4.te.cell 1;have fq1:w4.frozen? ⟨gT,1,none⟩=false:=hx4.te.frozen 1;have q2:w4.cell? ⟨gT,2,none⟩=some (.int .u64 x2):=hx4.te.cell 2;have fq2:w4.frozen? ⟨gT,2,none⟩=false:=hx4.te.frozen 2;have q3:w4.cell? ⟨gT,3,none⟩=some (.int .u64 x3):=hx4.te.cell 3;have fq3:w4.frozen? ⟨gT,3,none⟩=false:=hx4.te.frozen 3;have q4:w4.cell? ⟨gT,4,none⟩=some (.int .u64 x4):=hx4.te.cell 4;have fq4:w4.frozen? ⟨gT,4,none⟩=false:=hx4.te.frozen 4;have q5:w4.cell? ⟨gT,5,none⟩=some (.slice xA xl xc):=hx4.te.cell 5;have fq5:w4.frozen? ⟨gT,5,none⟩=false:=hx4.te.frozen 5))
    all_goals
     have HX5:=qh (hx4.put rfl 5 0 0 0 0 (some ⟨N,0,none⟩) 2 2);have hglt2:=hx4.lt;have hgl2:=hx4.gl;have hz3:w2.heap.size<=w3.heap.size:=hk3.size;have hgT3:gT<w2.heap.size:=Blk.lt hxd.te;have hzd:w.heap.size<=w2.heap.size:=hxd.ko.size;have hz5:=j80 w4 gT 5 0 0 0 0 (some ⟨N,0,none⟩) 2 2
     have HT5:Hid (Y2.2.e=0->∃ n,RxT ((((((w4.setCell ⟨gT,0,none⟩ (.int .i64 5)).setCell ⟨gT,1,none⟩ (.int .u64 0)).setCell ⟨gT,2,none⟩ (.int .u64 0)).setCell ⟨gT,3,none⟩ (.int .u64 0)).setCell ⟨gT,4,none⟩ (.int .u64 0)).setCell ⟨gT,5,none⟩ (.slice (some ⟨N,0,none⟩) 2 2)) (InT w gT ((((((w4.setCell ⟨gT,0,none⟩ (.int .i64 5)).setCell ⟨gT,1,none⟩ (.int .u64 0)).setCell ⟨gT,2,none⟩ (.int .u64 0)).setCell ⟨gT,3,none⟩ (.int .u64 0)).setCell ⟨gT,4,none⟩ (.int .u64 0)).setCell ⟨gT,5,none⟩ (.slice (some ⟨N,0,none⟩) 2 2))) n (jG1 5 t Y2.1) (six 5 0 0 0 0 (some ⟨N,0,none⟩) 2 2)):=qh λ hy=>by
      obtain⟨n1,hn1⟩:=HTd.out;obtain⟨n2,hn2⟩:=ht3 hy;have a1:=((hn1.off hk3 λ b hb=>⟨hb.2.1,by have:=hb.1;omega⟩).below hb4 λ b hb=>Nat.lt_of_lt_of_le hb.2.1 hz3);have a2:=hn2.below hb4 λ b hb=>hb.2
      have hz4:w3.heap.size<=w4.heap.size:=hb4.size;have b1:RxT w4 (InT w gT w4) n1 t (six x0 x1 x2 x3 x4 xA xl xc):=a1.weak λ b hb=>⟨hb.1,by have h1:b<w2.heap.size:=hb.2.1;omega,hb.2.2⟩
      have b2:RxT w4 (InT w gT w4) n2 Y2.1 (six v0 v1 v2 v3 v4 vA vl vc):=a2.weak λ b hb=>by
       have h1:w2.heap.size<=b:=hb.1;have h2:b<w3.heap.size:=hb.2;exact⟨by omega,by omega,by omega⟩
      have c:=RxT.two (b1.up (Nat.le_max_left n1 n2)) (b2.up (Nat.le_max_right n1 n2)) rfl (show InT w gT w4 N from ⟨by omega,hN2,by omega⟩) hc4 5 (by decide) (by decide);exact⟨_,(c.put6 (λ k=>k.2.2 rfl) 5 0 0 0 0 (some ⟨N,0,none⟩) 2 2).weak λ b hb=>⟨hb.1,by rw [hz5];exact hb.2.1,hb.2.2⟩⟩
     clear hx3 hx4 hr3 hk3 ht3 hb4 hc4 hxd hz5;go_wp2_with fail
     go_roundg m
     case measure=>rw [HG.out];omega
     case rel=>exact⟨m,jG1 5 t Y2.1,Y2.2,5,0,0,0,0,some ⟨N,0,none⟩,2,2,rfl,hY2.1,λ hy=>by have:=hY2.2;omega,HF2,HX5,HT5⟩
  . have HFe:Hid (F=(t,y)):=qh (HFq.out.trans (Km1 m h124));rw [show tkX s y 124=y from if_neg h124,show (nx s y==124)=false from beq_eq_false_iff_ne.2 h124] at CT;have CT:=qh CT;clear h124 hq;go_wp2_with fail;refine CT.out.mono ?_;rintro e w9 ⟨rfl,hr9,hk9⟩;have HX9:=qh (HX.out.kept hr9 hk9)
    have HT9:Hid (y.e=0->∃ n,RxT w9 (InT w gT w9) n t (six x0 x1 x2 x3 x4 xA xl xc)):=qh λ hy=>by
     obtain⟨n,hn⟩:=HT.out hy;exact⟨n,(hn.off hk9 λ b hb=>⟨hb.2.1,by have:=hb.1;omega⟩).weak λ b hb=>⟨hb.1,Nat.lt_of_lt_of_le hb.2.1 hk9.size,hb.2.2⟩⟩
    clear hr9 hk9;obtain⟨s0,s1,s2,s3,s4,s5⟩:=Blk.c6 HX9.out.te;obtain⟨r0,r1,r2,r3,r4,r5⟩:=Blk.c6 HX9.out.re;obtain⟨fr0,fr1,fr2,fr3,fr4,fr5⟩:=Blk.f6 HX9.out.re;have HZ:=qh (J42 (cs:= [.int .i64 0,.int .u64 0,.int .u64 0,.int .u64 0,.int .u64 0,.slice none 0 0]) HX9.out.re rfl x0 x1 x2 x3 x4 xA xl xc);have hne:=HX9.out.lt;have HZK:=qh (HX9.out.ko.put6 (Nat.le_refl _) x0 x1 x2 x3 x4 xA xl xc);have HZR:=qh (Blk.far6 HX9.out.rd (by omega:w.heap.size≠g) x0 x1 x2 x3 x4 xA xl xc);have HZS:=qh (j80 w9 w.heap.size x0 x1 x2 x3 x4 xA xl xc)
    have HZT:Hid (y.e=0->∃ n,RxT ((((((w9.setCell ⟨w.heap.size,0,none⟩ (.int .i64 x0)).setCell ⟨w.heap.size,1,none⟩ (.int .u64 x1)).setCell ⟨w.heap.size,2,none⟩ (.int .u64 x2)).setCell ⟨w.heap.size,3,none⟩ (.int .u64 x3)).setCell ⟨w.heap.size,4,none⟩ (.int .u64 x4)).setCell ⟨w.heap.size,5,none⟩ (.slice xA xl xc)) (λ b=>w.heap.size<=b/\b<w9.heap.size) n t (six x0 x1 x2 x3 x4 xA xl xc)):=qh λ hy=>by
     obtain⟨n,hn⟩:=HT9.out hy;exact⟨n,(hn.put6 (λ k=>absurd k.1 (Nat.lt_irrefl _)) x0 x1 x2 x3 x4 xA xl xc).weak λ b hb=>⟨Nat.le_of_lt hb.1,hb.2.1⟩⟩
    clear HX9;go_wp2_with fail;obtain⟨wz,hwz⟩:∃ wz,wz=((((((w9.setCell ⟨w.heap.size,0,none⟩ (.int .i64 x0)).setCell ⟨w.heap.size,1,none⟩ (.int .u64 x1)).setCell ⟨w.heap.size,2,none⟩ (.int .u64 x2)).setCell ⟨w.heap.size,3,none⟩ (.int .u64 x3)).setCell ⟨w.heap.size,4,none⟩ (.int .u64 x4)).setCell ⟨w.heap.size,5,none⟩ (.slice xA xl xc)):=⟨_,rfl⟩;have hz:=HZ.out;have hzk:=HZK.out;have hzr:=HZR.out;have hzs:=HZS.out;have hzt:=HZT.out;rw [<-hwz] at hz hzk hzr hzs hzt⊢;obtain⟨z0,z1,z2,z3,z4,z5⟩:=Blk.c6 hz
    refine bodyPost_ret (v:= .agg #[.int .i64 x0,.int .u64 x1,.int .u64 x2,.int .u64 x3,.int .u64 x4,.slice xA xl xc]) (by simp [results,Tryz.results132,go_sem,z0,z1,z2,z3,z4,z5]) rfl ⟨x0,x1,x2,x3,x4,xA,xl,xc,rfl,by rw [HFe.out];exact hzr,hzk,λ hy=>by
     rw [HFe.out] at hy⊢;obtain⟨n,hn⟩:=hzt hy;exact⟨n,hn.weak λ b hb=>⟨hb.1,by omega⟩⟩⟩
end Go.Proofs.YtngepacmgabmaaaGreatDoor
