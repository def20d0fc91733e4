/- How far a reading goes; the readings of ; Walk: rex.copyOf. (printed by gen_prsn.p .. -/
import Derived.Test.YtngepacmgabmaaaGreatDoorGv
namespace Go.Proofs.YtngepacmgabmaaaGreatDoor
open Go.RowKit
set_option linter.unusedVariables false
set_option linter.unusedSimpArgs false
def In1 (s:ByteArray) (x y:Sx):Prop:=y.p<=s.size/\x.p<=y.p
theorem Go1.in1 {s:ByteArray} {x y:Sx} (h:Go1 s x y):In1 s x y:=⟨h.hi,h.lo⟩
theorem In1.tr {s:ByteArray} {x y z:Sx} (h:In1 s x y) (k:In1 s y z):In1 s x z:=⟨k.1,Nat.le_trans h.2 k.2⟩
theorem In1.refl {s:ByteArray} {x:Sx} (h:x.p<=s.size):In1 s x x:=⟨h,Nat.le_refl _⟩
theorem Zf1 {s:ByteArray} {x:Sx} {b:Int} (hb:0<=b) (h:x.p<=s.size):In1 s x (tkX s x b):=by
 unfold tkX;split
 . exact(kx8 (by omega)).in1
 . exact In1.refl h
theorem qJ3 {s:ByteArray} {x:Sx} (c:Int) (h:x.p<=s.size):In1 s x (x.fl c):=⟨by rw [ZG2];exact h,by rw [ZG2];exact Nat.le_refl _⟩
theorem kX1 (s:ByteArray):∀ (m:Nat) (one:Bool) (f:Nat->Bool) (x:Sx),x.p<=s.size->In1 s x (clL s m one f x).2
 |0,_,_,_,h=>In1.refl h
 |m+1,one,f,x,h=>by
  by_cases hc:x.e=0/\(one=true\/¬nx s x=93)
  . cases hg:gr s x with
    |some g=>
     rw [ZE7 hc hg];have g1:=yP3 hg;exact g1.in1.tr (kX1 s m _ _ _ g1.hi)
    |none=>
     have g1:=Q44 s x h;by_cases h45:nx s (ch s x).2=45
     . rw [zH4 hc hg h45];have g2:=g1.tr (kx8 (by omega));have g3:=g2.tr (Q44 s (ch s x).2.up g2.hi);split
       . have e:In1 s x ⟨(ch s x).2.p+1,3⟩:=⟨g2.hi,g2.lo⟩;exact e.tr (kX1 s m _ _ _ e.1)
       . exact g3.in1.tr (kX1 s m _ _ _ g3.hi)
     . rw [Kg8 hc hg h45];exact g1.in1.tr (kX1 s m _ _ _ g1.hi)
  . rw [Xm2 _ hc];exact In1.refl h
theorem Q48 (s:ByteArray) (x:Sx) (h:x.p<=s.size):In1 s x (cls s x).2:=by
 have h1:=Zf1 (s:=s) (x:=x) (b:=94) (by decide) h;have h2:=h1.tr (kX1 s (s.size+1) true (λ _=>false) (tkX s x 94) h1.1)
 have key:∀ (q:Q4) (r:Sx),In1 s x r->In1 s x (tkX s (if q.zero=true then r.fl 3 else r) 93):=by
  intro q r hr;split
  . have h3:=hr.tr (qJ3 3 hr.1);exact h3.tr (Zf1 (b:=93) (by decide) h3.1)
  . exact hr.tr (Zf1 (b:=93) (by decide) hr.1)
 exact key (mkQ (if nx s x=94 then λ b=> !(clL s (s.size+1) true (λ _=>false) (tkX s x 94)).1 b else (clL s (s.size+1) true (λ _=>false) (tkX s x 94)).1)) _ h2
theorem Yh5 (s:ByteArray):∀ (m:Nat) (t:Rx) (x:Sx),x.p<=s.size->In1 s x (lpP s m t x).2/\(lpP s m t x).2.e=x.e
 |0,_,_,h=>⟨In1.refl h,rfl⟩
 |m+1,t,x,h=>by
  rw [lpP];split
  . have g:=(kx8 (s:=s) (x:=x) (by omega)).in1;have k:=Yh5 s m (j41 t) x.up g.1;exact⟨g.tr k.1,k.2⟩
  . split
    . have g:=(kx8 (s:=s) (x:=x) (by omega)).in1;have k:=Yh5 s m (jG1 5 t (Y41 2)) x.up g.1;exact⟨g.tr k.1,k.2⟩
    . split
      . have g:=(kx8 (s:=s) (x:=x) (by omega)).in1;have k:=Yh5 s m (jG1 4 t (j41 (JP5 t))) x.up g.1;exact⟨g.tr k.1,k.2⟩
      . exact⟨In1.refl h,rfl⟩
section
variable {s:ByteArray} {A:Sx->Rx×Sx}
theorem yz8 (hA:GoS s A):GoS s (pcF s A):=λ x he hp=>by
 have g:=hA x he hp;have k:=Yh5 s (s.size+1) (A x).1 (A x).2 g.hi;exact⟨k.1.1,Nat.le_trans g.lo k.1.2,λ hy=>Nat.lt_of_lt_of_le (g.ok (by rw [<-k.2];exact hy)) k.1.2⟩
theorem ql4 (hA:GoS s A):∀ (m:Nat) (t:Rx) (x:Sx),x.p<=s.size->In1 s x (lpR s A m t x).2
 |0,_,_,h=>In1.refl h
 |m+1,t,x,h=>by
  by_cases hc:enB s x=true
  . rw [zP4 _ hc];exact In1.refl h
  . rw [K50 hc];have g:=(hA x (J22 hc).1 h).in1;exact g.tr (ql4 hA m _ _ g.1)
theorem K02 (hA:GoS s A):Go0 s (rwF s A):=λ x he hp=>by
 unfold rwF;split
 . exact In1.refl hp
 . have g:=(hA x he hp).in1;exact g.tr (ql4 hA _ _ _ g.1)
theorem jF4 (hA:Go0 s A):∀ (m:Nat) (t:Rx) (x:Sx),x.p<=s.size->In1 s x (lpA s A m t x).2
 |0,_,_,h=>In1.refl h
 |m+1,t,x,h=>by
  by_cases hc:nx s x=124
  . rw [z86 hc];have g0:=kx8 (s:=s) (x:=x) (by omega);have g:In1 s x (A x.up).2:=g0.in1.tr (hA x.up (Jo0 (s:=s) (x:=x) (by omega)).1 g0.hi);exact g.tr (jF4 hA m _ _ g.1)
  . rw [Km1 _ hc];exact In1.refl h
theorem Zm1 (hA:Go0 s A):Go0 s (atF s A):=λ x he hp=>by
 have g:In1 s x (A x).2:=hA x he hp;exact g.tr (jF4 hA _ _ _ g.1)
theorem X04 (hA:GoS s A):Go0 s (alF s A):=Zm1 (K02 (yz8 hA))
theorem Q84 {o:Option (Sx->Rx×Sx)} (hB:∀ B,o=some B->Go0 s B):GoS s (amG s o):=λ x he hp=>by
 unfold amG;split
 . have g0:=kx8 (s:=s) (x:=x) (by omega);cases o with
   |none=>exact yZ8 (by decide) hp
   |some B=>
    have g:In1 s x.up (B x.up).2:=hB B rfl x.up he g0.hi;have hup:x.up.p=x.p+1:=rfl;have h2:=g.2;dsimp only;split
    . have g3:=(kx8 (s:=s) (x:=(B x.up).2) (by omega)).in1;have h3:=g3.2;exact⟨g3.1,by omega,λ _=>by omega⟩
    . have g3:=qJ3 (s:=s) (x:=(B x.up).2) 3 g.1;have h3:=g3.2;exact⟨g3.1,by omega,λ _=>by omega⟩
 . split
   . exact kx8 (by omega)
   . split
     . exact kx8 (by omega)
     . split
       . exact kx8 (by omega)
       . split
         . have g0:=kx8 (s:=s) (x:=x) (by omega);have g:=Q48 s x.up g0.hi;have hup:x.up.p=x.p+1:=rfl;have h2:=g.2;exact⟨g.1,by dsimp only;omega,λ _=>by dsimp only;omega⟩
         . cases hg:gr s x with
           |some f=>exact yP3 hg
           |none=>exact Q44 s x hp
theorem Jb3 (s:ByteArray):∀ n,GoS s (amF s n)
 |0=>by rw [Jt4];exact Q84 λ B h=>by cases h
 |n+1=>by
  rw [kF4];exact Q84 λ B h=>by cases h;exact X04 (Jb3 s n)
end
theorem yJ9 (s:ByteArray) (hs:s.size<=200) (hCopy:∀ d,XX9 195 d):∀ n:Nat,n<=20->J11 193 (20-(n:Int)) s (amF s n)
 |0,_=>by
  rw [Jt4];exact Q73 s hs _ none ⟨by omega,by omega⟩ (λ _=>by omega) λ B h=>by cases h
 |n+1,hn=>by
  rw [kF4];have ih:=yJ9 s hs hCopy n (by omega);have hg:=Jb3 s n;have h1:=yQ8 s hs _ _ hCopy ih hg;have h2:=J69 s hs _ _ h1 (yz8 hg);have h3:=zU1 s hs _ _ h2 (K02 (yz8 hg));refine Q73 s hs _ _ ⟨by omega,by omega⟩ (λ h=>by cases h) λ B h=> ?_
  cases h;refine⟨by omega,?_,X04 hg⟩;have e:(20:Int)-((n+1:Nat):Int)+1=20-(n:Int):=by omega
  rw [e];exact h3
theorem Kq6 (s:ByteArray) (hs:s.size<=200) (hCopy:∀ d,XX9 195 d):J11 132 0 s (alF s (amF s 20)):=by
 have ih:=yJ9 s hs hCopy 20 (by omega);have hg:=Jb3 s 20;have h3:=zU1 s hs _ _ (J69 s hs _ _ (yQ8 s hs _ _ hCopy ih hg) (yz8 hg)) (K02 (yz8 hg));exact h3
theorem xV5:(Tryz.prog.info? 125).map (λ i=>(i.zero,i.size,i.bytes))=some (some (.agg #[.int .i64 0,.int .u64 0,.int .u64 0,.int .u64 0,.int .u64 0,.slice none 0 0]),6,64):=by kernel_rfl
def CpL (w:World) (P:Nat->Prop) (d:Nat) (ks:List Rx) (L:List Value):Prop:=L.length=ks.length*6/\∀ i x,ks[i]? =some x->∃ cs',cs'.length=6/\(∀ j u,cs'[j]? =some u->L[i*6+j]? =some u)/\RxT w P d x cs'
theorem CpL.nil (w:World) (P:Nat->Prop) (d:Nat):CpL w P d [] []:=⟨rfl,λ i x h=>by simp at h⟩
theorem CpL.keep {w w':World} {P Q:Nat->Prop} {d:Nat} {ks:List Rx} {L:List Value} (h:CpL w P d ks L) (hh:∀ b,P b->Q b) (hk:∀ p:Addr,P p.block->w'.cell? p=w.cell? p):CpL w' Q d ks L:=⟨h.1,λ i x hi=>by
 obtain⟨cs',h1,h2,h3⟩:=h.2 i x hi;exact⟨cs',h1,h2,h3.keep hh hk⟩⟩
theorem CpL.snoc {w:World} {P:Nat->Prop} {d:Nat} {ks:List Rx} {L:List Value} (h:CpL w P d ks L) {x:Rx} {cs:List Value} (hl:cs.length=6) (hx:RxT w P d x cs):CpL w P d (ks++ [x]) (L++cs):=by
 refine⟨by rw [List.length_append,List.length_append,h.1,hl,List.length_singleton];omega,λ i y hi=> ?_⟩;by_cases hlt:i<ks.length
 . rw [List.getElem?_append_left hlt] at hi;obtain⟨cs',h1,h2,h3⟩:=h.2 i y hi;refine⟨cs',h1,λ j u hu=> ?_,h3⟩;have hj:=(List.getElem?_eq_some_iff.1 hu).1;rw [List.getElem?_append_left (by rw [h.1];omega)];exact h2 j u hu
 . rw [List.getElem?_append_right (by omega)] at hi
   have hi0:i=ks.length:=by
    have:=(List.getElem?_eq_some_iff.1 hi).1;rw [List.length_singleton] at this;omega
   subst hi0;rw [Nat.sub_self] at hi;cases hi;refine⟨cs,hl,λ j u hu=> ?_,hx⟩;rw [List.getElem?_append_right (by rw [h.1];omega),h.1,Nat.add_sub_cancel_left];exact hu
structure Cp (w:World) (k:Int) (s:Q4) (d:Nat) (v0 v:Value) (ks:List Rx) (wr:World):Prop where
 re:Blk wr (w.heap.size+1) 125 #[.int .i64 0,.int .u64 0,.int .u64 0,.int .u64 0,.int .u64 0,.slice none 0 0]
 ou:Blk wr (w.heap.size+2) 125 #[.int .i64 k,.int .u64 (s.a:Int),.int .u64 (s.b:Int),.int .u64 (s.c:Int),.int .u64 (s.d:Int),v0]
 ow:∃ L,wr.ownsRow (w.heap.size+3) 125 6 v ks.length L/\(∀ u∈L,u.oneCell'=true)/\CpL wr (λ b=>w.heap.size<=b/\b<wr.heap.size/\v.ownBlock≠some b/\b≠w.heap.size+1/\b≠w.heap.size+2) d ks L
 be:Below w.heap.size w wr
section
variable {w wr wr':World} {k:Int} {s:Q4} {d:Nat} {v0 v:Value} {ks:List Rx}
theorem Cp.step (h:Cp w k s d v0 v ks wr) (hb:Below wr.heap.size wr wr'):Cp w k s d v0 v ks wr':=by
 obtain⟨L,h1,h2,h3⟩:=h.ow;refine⟨Blk.below h.re hb (Blk.lt h.re),Blk.below h.ou hb (Blk.lt h.ou),⟨L,?_,h2,?_⟩,h.be.trans (hb.mono h.be.size)⟩
 . refine World.ownsRow.kept (row:=none) h1 ⟨hb.os,hb.tape,hb.output,hb.size,λ k hk _=>hb.block k hk⟩ ?_;cases v.ownBlock<;>simp
 . exact h3.keep (λ b hb2=>⟨hb2.1,Nat.lt_of_lt_of_le hb2.2.1 hb.size,hb2.2.2⟩) λ p hp=>hb.cell hp.2.1
theorem Cp.form (h:Cp w k s d v0 v ks wr):∃ A c,v= .slice A ks.length c:=by
 obtain⟨L,h1,_⟩:=h.ow;rcases h1.2 with⟨rfl,h2⟩|⟨g,c,cur,rfl,_⟩
 . exact⟨none,0,by rw [h2]⟩
 . exact⟨_,_,rfl⟩
end
theorem Grew.cell {w w':World} {v v':Value} (h:Grew w w' v v') {p:Addr} (hp:p.block<w.heap.size) (hne:v.ownBlock≠some p.block):w'.cell? p=w.cell? p:=by
 have hb:=h.grown.block p.block hp (λ e=>hne e.symm);unfold World.cell?;rw [hb]
section
variable {w wr wr':World} {k:Int} {s:Q4} {d:Nat} {v0 v:Value} {ks:List Rx}
theorem cp_in {w3:World} (h:Cp w k s d v0 v ks wr) {b:Nat} (hb:wr.heap.size<=b/\b<w3.heap.size):w.heap.size<=b/\b<w3.heap.size/\v.ownBlock≠some b/\b≠w.heap.size+1/\b≠w.heap.size+2:=by
 obtain⟨L,h1,_⟩:=h.ow;have hlt:=World.ownsRow.lt h1;have hgl:w.heap.size+2<wr.heap.size:=Blk.lt h.ou;exact⟨by omega,hb.2,λ e=>by have:=(hlt b e).2;omega,by omega,by omega⟩
theorem Cp.app (h:Cp w k s d v0 v ks wr) {L:List Value} (h1:wr.ownsRow (w.heap.size+3) 125 6 v ks.length L) (h2:∀ u∈L,u.oneCell'=true) (h3:CpL wr (λ b=>w.heap.size<=b/\b<wr.heap.size/\v.ownBlock≠some b/\b≠w.heap.size+1/\b≠w.heap.size+2) d ks L) {v':Value} {x:Rx} {cs:List Value} (hl:cs.length=6) (h1c:∀ u∈cs,u.oneCell'=true) (hx:RxT wr (λ b=>w.heap.size<=b/\b<wr.heap.size/\v.ownBlock≠some b/\b≠w.heap.size+1/\b≠w.heap.size+2) d x cs)
 (ho:wr'.ownsRow (w.heap.size+3) 125 6 v' (ks.length+1) (L++cs)) (hg:Grew wr wr' v v'):Cp w k s d v0 v' (ks++ [x]) wr':=by
 have hz:wr.heap.size<=wr'.heap.size:=hg.grown.size;have hlt:=World.ownsRow.lt h1;have hlo:∀ b,v.ownBlock=some b->w.heap.size+3<=b:=λ b hb=>(hlt b hb).1
 have hre:=Blk.lt h.ou;refine⟨hg.blk h.re (λ e=>by have:=hlo _ e;omega),hg.blk h.ou (λ e=>by have:=hlo _ e;omega),⟨L++cs,?_,?_,?_⟩,h.be.trans (hg.below (B:=w.heap.size) h.be.size λ b hb=>by have:=hlo b hb;omega)⟩
 . rw [List.length_append,List.length_singleton];exact ho
 . intro u hu;rcases List.mem_append.1 hu with hu|hu
   . exact h2 u hu
   . exact h1c u hu
 . have hP:∀ b,(w.heap.size<=b/\b<wr.heap.size/\v.ownBlock≠some b/\b≠w.heap.size+1/\b≠w.heap.size+2)->(w.heap.size<=b/\b<wr'.heap.size/\v'.ownBlock≠some b/\b≠w.heap.size+1/\b≠w.heap.size+2):=λ b hb=>⟨hb.1,Nat.lt_of_lt_of_le hb.2.1 hz,hg.off hb.2.1 hb.2.2.1,hb.2.2.2⟩
   exact(h3.keep hP λ p hp=>hg.cell hp.2.1 hp.2.2.1).snoc hl (hx.keep hP λ p hp=>hg.cell hp.2.1 hp.2.2.1)
theorem zi2 {ops:Array Oper} {o:Oper} {a:Act} {K:Act->World->Prop} {Q:Exit->Act->World->Prop} {E:Prop} (hgd:o.guard=none) (p q:Operand)
 (hop:o.op= .call {callee:= .builtin .append,args:=#[p,q],argTypes:=#[123,123]})
 (hH:Cp w k s d v0 v ks wr) (hs:a.eval p=v) (x:Rx) (x0 x1 x2 x3 x4:Int) (xA:Option Addr) (xl xc:Nat) (hx:RxT wr (λ b=>w.heap.size<=b/\b<wr.heap.size/\v.ownBlock≠some b/\b≠w.heap.size+1/\b≠w.heap.size+2) d x (six x0 x1 x2 x3 x4 xA xl xc))
 (hq:a.eval q= .slice (some ⟨wr.heap.size,0,none⟩) 1 1) (hlen:ks.length<=1000000)
 (hK:∀ A' c' w',Cp w k s d v0 (.slice A' (ks.length+1) c') (ks++ [x]) w'->K (a.put o.dst (.slice A' (ks.length+1) c')) w'):
 if Region.wanted o (yielded ops a.tmps)=true then Oper.wp Tryz.prog o a (wr.alloc (.cells #[.int .i64 x0,.int .u64 x1,.int .u64 x2,.int .u64 x3,.int .u64 x4,.slice xA xl xc] 125)) K Q else E:=by
 obtain⟨i0,hi0,hz0,hz1,hz2⟩:=info_parts xV5;have hB:w.heap.size+3<=wr.heap.size:=Blk.lt hH.ou
 have h1c:∀ u∈six x0 x1 x2 x3 x4 xA xl xc,u.oneCell'=true:=by
  intro u hu;simp only [six,List.mem_cons,List.not_mem_nil,or_false] at hu;rcases hu with rfl|rfl|rfl|rfl|rfl|rfl<;>rfl
 obtain⟨L,h1,h2,h3⟩:=hH.ow;refine xP0 (P:=Tryz.prog) (Q:=Q) (ops:=ops) hgd p q hop Tryz.underlying123 hi0 hz0 hz1 hz2 rfl (by decide) h1 hs [.int .i64 x0,.int .u64 x1,.int .u64 x2,.int .u64 x3,.int .u64 x4,.slice xA xl xc] 1 1 hq rfl h1c (by unfold maxLen;omega) (by omega) hB λ v' w' h4 h5=> ?_
 have hc:=hH.app h1 h2 h3 rfl h1c hx h4 h5;obtain⟨A',c',rfl⟩:=hc.form;rw [List.length_append,List.length_singleton] at hc⊢;exact hK A' c' w' hc
end
section
variable {w wr wr':World} {k:Int} {s:Q4} {d:Nat} {v0 v:Value} {ks:List Rx}
theorem Cp.set (h:Cp w k s d v0 v ks wr):Cp w k s d v v ks (wr.setCell ⟨w.heap.size+2,5,none⟩ v):=by
 obtain⟨L,h1,h2,h3⟩:=h.ow;have hlt:=World.ownsRow.lt h1;have hne:v.ownBlock≠some (w.heap.size+2):=λ e=>by have:=(hlt _ e).1;omega
 refine⟨Blk.far h.re (by dsimp only;omega) _,h.ou.set_ 5 v,⟨L,?_,h2,?_⟩,h.be.setCell (by dsimp only;omega) _⟩
 . refine World.ownsRow.kept (row:=some (w.heap.size+2)) h1 ⟨rfl,rfl,rfl,by simp [World.setCell],λ k hk hk2=>Below.heap_setCell wr ⟨w.heap.size+2,5,none⟩ v k (λ e=>hk2 (by rw [e]))⟩ (.inr hne)
 . exact h3.keep (λ b hb=>⟨hb.1,by simpa [World.setCell] using hb.2.1,hb.2.2⟩) λ p hp=>World.cell?_setCell_far wr _ p v (λ e=>hp.2.2.2.2 e.symm)
theorem Cp.tree (h:Cp w k s d v v ks wr) {A:Option Addr} {n c:Nat} (hv:v= .slice A n c) (hs:s.ok) (hl:ks.length<=2) (hk: -9223372036854775808<=k/\k<=9223372036854775807):RxT wr (λ b=>w.heap.size<=b/\b<wr.heap.size/\b≠w.heap.size+1) (d+1) (.mk k s ks) (six k s.a s.b s.c s.d A n c):=by
 obtain⟨L,h1,h2,h3⟩:=h.ow;have hlt:=World.ownsRow.lt h1;have hP:∀ b,v.ownBlock=some b->w.heap.size<=b/\b<wr.heap.size/\b≠w.heap.size+1:=λ b hb=>by have:=hlt b hb;exact⟨by omega,this.2,by omega⟩
 have hel:∀ i x,ks[i]? =some x->∃ g cs',v.ownBlock=some g/\(∀ j u,cs'[j]? =some u->wr.cell? ((⟨g,0,none⟩:Addr).add (i*6+j))=some u)/\RxT wr (λ b=>w.heap.size<=b/\b<wr.heap.size/\b≠w.heap.size+1) d x cs':=λ i x hi=>by
  obtain⟨cs',q1,q2,q3⟩:=h3.2 i x hi;have hil:=(List.getElem?_eq_some_iff.1 hi).1;rcases h1.2 with⟨_,h0⟩|⟨g,cap,cur,e,_⟩
  . omega
  . have hg:v.ownBlock=some g:=(by rw [e];rfl);exact⟨g,cs',hg,λ j u hu=>World.ownsRow.cells h1 hg _ _ (q2 j u hu),q3.weak λ b hb=>⟨hb.1,hb.2.1,hb.2.2.2.1⟩⟩
 refine⟨hs,hl,hk,A,c,?_,?_,?_,?_,?_⟩
 . rcases h1.2 with⟨e,h0⟩|⟨g,cap,cur,e,_⟩
   . rw [hv] at e;injection e with e1 e2 e3;subst e1 e2 e3;simp only [Rx.k,Rx.s,Rx.ks,h0];rfl
   . rw [hv] at e;injection e with e1 e2 e3;subst e1 e2 e3;rfl
 . rcases h1.2 with⟨e,h0⟩|⟨g,cap,cur,e,_,_,q1,_⟩
   . simp only [Rx.ks,h0];omega
   . rw [hv] at e;injection e with e1 e2 e3;subst e3;exact q1
 . rcases h1.2 with⟨e,h0⟩|⟨g,cap,cur,e,_,_,q1,q2,_⟩
   . rw [hv] at e;injection e with e1 e2 e3;subst e3;omega
   . rw [hv] at e;injection e with e1 e2 e3;subst e3;unfold maxLen at q2;omega
 . intro hpos;simp only [Rx.ks] at hpos;rcases h1.2 with⟨_,h0⟩|⟨g,cap,cur,e,_⟩
   . omega
   . have hg:v.ownBlock=some g:=(by rw [e];rfl);rw [hv] at e;injection e with e1 e2 e3;exact⟨_,e1,hP g hg⟩
 . intro i x hi;simp only [Rx.ks] at hi;obtain⟨g,cs',hg,q1,q2⟩:=hel i x hi;have hil:=(List.getElem?_eq_some_iff.1 hi).1;rcases h1.2 with⟨_,h0⟩|⟨g',cap,cur,e,_⟩
   . omega
   . have hg':v.ownBlock=some g':=(by rw [e];rfl);rw [hg'] at hg;injection hg with hg;subst hg;rw [hv] at e;injection e with e1 e2 e3;exact⟨_,cs',e1,q1,q2⟩
end
set_option maxRecDepth 100000 in
set_option maxHeartbeats 4000000 in
theorem QS7 (d:Nat) (ih:XX9 195 d):XX9 195 (d+1):=by
 rintro⟨k,s,ks⟩ cs B w ⟨hs,hle,hk,A,cap,e,hlc,hcap,hblk,hel⟩ hB;have HI:=qh ih;clear ih;subst e;simp only [Rx.k,Rx.s,Rx.ks] at hs hle hk hlc hcap hblk hel⊢;have ecs:(ZF1 k s A ks.length cap).toArray=#[.int .i64 k,.int .u64 (s.a:Int),.int .u64 (s.b:Int),.int .u64 (s.c:Int),.int .u64 (s.d:Int),.slice A ks.length cap]:=rfl;rw [ecs];clear ecs;have HS:=qh (show s.ok/\(-9223372036854775808<=k/\k<=9223372036854775807) from ⟨hs,hk⟩);have HEL:=qh hel;have HBK:=qh hblk
 have h0:Hid (Cp w k s d (.slice none 0 0) (.slice none 0 0) [] (((w.alloc (.cells #[.int .i64 k,.int .u64 (s.a:Int),.int .u64 (s.b:Int),.int .u64 (s.c:Int),.int .u64 (s.d:Int),.slice A ks.length cap] 125)).alloc (.cells #[.int .i64 0,.int .u64 0,.int .u64 0,.int .u64 0,.int .u64 0,.slice none 0 0] 125)).alloc (.cells #[.int .i64 k,.int .u64 (s.a:Int),.int .u64 (s.b:Int),.int .u64 (s.c:Int),.int .u64 (s.d:Int),.slice none 0 0] 125))):=qh (by
  have hb:Below w.heap.size w (((w.alloc (.cells #[.int .i64 k,.int .u64 (s.a:Int),.int .u64 (s.b:Int),.int .u64 (s.c:Int),.int .u64 (s.d:Int),.slice A ks.length cap] 125)).alloc (.cells #[.int .i64 0,.int .u64 0,.int .u64 0,.int .u64 0,.int .u64 0,.slice none 0 0] 125)).alloc (.cells #[.int .i64 k,.int .u64 (s.a:Int),.int .u64 (s.b:Int),.int .u64 (s.c:Int),.int .u64 (s.d:Int),.slice none 0 0] 125)):=(((Below.refl _ _).alloc (Nat.le_refl _) _).alloc (by simp) _).alloc (by simp;omega) _;refine⟨?_,?_,⟨[],⟨rfl,.inl ⟨rfl,rfl⟩⟩,λ u hu=>absurd hu (List.not_mem_nil),CpL.nil _ _ _⟩,hb⟩
  . refine Blk.alloc ?_ _;have:=Blk.new (w.alloc (.cells #[.int .i64 k,.int .u64 (s.a:Int),.int .u64 (s.b:Int),.int .u64 (s.c:Int),.int .u64 (s.d:Int),.slice A ks.length cap] 125)) 125 #[.int .i64 0,.int .u64 0,.int .u64 0,.int .u64 0,.int .u64 0,.slice none 0 0]
    simpa using this
  . have:=Blk.new ((w.alloc (.cells #[.int .i64 k,.int .u64 (s.a:Int),.int .u64 (s.b:Int),.int .u64 (s.c:Int),.int .u64 (s.d:Int),.slice A ks.length cap] 125)).alloc (.cells #[.int .i64 0,.int .u64 0,.int .u64 0,.int .u64 0,.int .u64 0,.slice none 0 0] 125)) 125 #[.int .i64 k,.int .u64 (s.a:Int),.int .u64 (s.b:Int),.int .u64 (s.c:Int),.int .u64 (s.d:Int),.slice none 0 0]
    simpa using this)
 clear hel hblk hs hk;go_enter Tryz.func195,Tryz.ntmps195;go_wp2_with fail;obtain⟨W,hW⟩:∃ W,((w.alloc (.cells #[.int .i64 k,.int .u64 (s.a:Int),.int .u64 (s.b:Int),.int .u64 (s.c:Int),.int .u64 (s.d:Int),.slice A ks.length cap] 125)).alloc (.cells #[.int .i64 0,.int .u64 0,.int .u64 0,.int .u64 0,.int .u64 0,.slice none 0 0] 125)).alloc (.cells #[.int .i64 k,.int .u64 (s.a:Int),.int .u64 (s.b:Int),.int .u64 (s.c:Int),.int .u64 (s.d:Int),.slice none 0 0] 125)=W:=⟨_,rfl⟩;rw [hW] at h0⊢;clear hW;go_loopw [14] (λ i wr=>∃ (j:Nat) (v:Value),i= .int .i64 (j:Int)/\j<=ks.length/\Hid (Cp w k s d v v (ks.take j) wr)) (λ i _=>ks.length-(intOf i).toNat)
 case atStart=>exact⟨0,_,rfl,Nat.zero_le _,by rw [List.take_zero];exact h0⟩
 case round=>
  clear h0;obtain⟨j,v,rfl,hj,HC⟩:=hrel;by_cases hlt:j<ks.length
  . obtain⟨ad,cs',rfl,hc,hr⟩:=HEL.out j ks[j] (List.getElem?_eq_getElem hlt);obtain⟨_,e',hb⟩:=HBK.out (by omega);injection e' with e';subst e';have hT:Hid (ks.take (j+1)=ks.take j++ [ks[j]]):=qh (by rw [List.take_add_one,List.getElem?_eq_getElem hlt];rfl);have hlK:(ks.take j).length<=2:=(by rw [List.length_take];omega);obtain⟨c0,c1,c2,c3,c4,A6,l6,c6,rfl⟩:=(hr.rxC (B:=B) λ b hb=>hb).six;have hwB:Below B w wr:=HC.out.be.mono hB;obtain⟨d0,d1,d2,d3,d4,d5⟩:=XW8 (w':=wr) hc hb hwB;have CI:∀ wx:World,Below B w wx->Calls Tryz.prog 195 #[.agg #[.int .i64 c0,.int .u64 c1,.int .u64 c2,.int .u64 c3,.int .u64 c4,.slice A6 l6 c6]] wx λ e w'=>∃ (x0 x1 x2 x3 x4:Int) (xA:Option Addr) (xl xc:Nat),e= .returned (.agg #[.int .i64 x0,.int .u64 x1,.int .u64 x2,.int .u64 x3,.int .u64 x4,.slice xA xl xc])/\RxT w' (λ b=>wx.heap.size<=b/\b<w'.heap.size) d ks[j] (six x0 x1 x2 x3 x4 xA xl xc)/\Below wx.heap.size wx w':=λ wx hx=>HI.out ks[j] _ B wx (hr.keep (λ _ hb=>hb) λ p hp=>hx.cell hp) (Nat.le_trans hB hx.size)
    have CI:=qh CI;obtain⟨K,hK⟩:∃ K,K=ks.take j:=⟨_,rfl⟩;rw [<-hK] at HC hT hlK;obtain⟨x,hx⟩:∃ x,x=ks[j]:=⟨_,rfl⟩;rw [<-hx] at CI hT;obtain⟨A5,c5,rfl⟩:=HC.out.form;have HB:=qh hwB;have hgl:w.heap.size+2<wr.heap.size:=Blk.lt HC.out.ou;clear hc hr hK hx hwB;go_upto_region 5 with fail;have hC2:=HC.out.step ((Below.refl _ _).alloc (Nat.le_refl _) (.cells #[.int .i64 c0,.int .u64 c1,.int .u64 c2,.int .u64 c3,.int .u64 c4,.slice A6 l6 c6] 125));have hG2:=Blk.new wr 125 #[.int .i64 c0,.int .u64 c1,.int .u64 c2,.int .u64 c3,.int .u64 c4,.slice A6 l6 c6];obtain⟨V,hV⟩:∃ V,wr.alloc (.cells #[.int .i64 c0,.int .u64 c1,.int .u64 c2,.int .u64 c3,.int .u64 c4,.slice A6 l6 c6] 125)=V:=⟨_,rfl⟩;rw [hV] at hC2 hG2⊢;have hgV:wr.heap.size<V.heap.size:=Blk.lt hG2;obtain⟨g,hg⟩:∃ g,wr.heap.size=g:=⟨_,rfl⟩;rw [hg] at hG2 hgl hgV⊢;clear hV hg d0 d1 d2 d3 d4 d5 HC;have hCd:=hC2.step (below_drewN (Below.refl _ _) 1:Below V.heap.size V V.drew);have hGd:=hG2.drew;have y0:V.drew.cell? ⟨g,0,none⟩=some (.int .i64 c0):=hGd.cell 0;have y1:V.drew.cell? ⟨g,1,none⟩=some (.int .u64 c1):=hGd.cell 1;have y2:V.drew.cell? ⟨g,2,none⟩=some (.int .u64 c2):=hGd.cell 2;have y3:V.drew.cell? ⟨g,3,none⟩=some (.int .u64 c3):=hGd.cell 3;have y4:V.drew.cell? ⟨g,4,none⟩=some (.int .u64 c4):=hGd.cell 4;have y5:V.drew.cell? ⟨g,5,none⟩=some (.slice A6 l6 c6):=hGd.cell 5;have o5:V.drew.cell? ⟨w.heap.size+2,5,none⟩=some (.slice A5 K.length c5):=hCd.ou.cell 5;have HCI:=qh (CI.out V.drew (hCd.be.mono hB));go_wp2_with fail
    go_region_law (first
     |(go_simp;go_at_call 195;(refine HCI.out.mono ?_);rintro e w3 ⟨x0,x1,x2,x3,x4,xA,xl,xc,rfl,hx3,hb3⟩;have hC3:=hCd.step hb3;have o5':w3.cell? ⟨w.heap.size+2,5,none⟩=some (.slice A5 K.length c5):=hC3.ou.cell 5;have hg3:w.heap.size+2<w3.heap.size:=Blk.lt hC3.ou)
     |(refine zi2 rfl (.tmp 19) (.tmp 22) rfl hC3 (by rfl) x x0 x1 x2 x3 x4 xA xl xc (hx3.weak λ b hb=>cp_in hCd hb) (by rfl) (by omega) ?_;intro A7 c7 w4 hC4;have o6:w4.cell? ⟨w.heap.size+2,5,none⟩=some (.slice A5 K.length c5):=hC4.ou.cell 5;have o7:w4.frozen? ⟨w.heap.size+2,5,none⟩=false:=hC4.ou.frozen 5))
    all_goals
     have HC5:=qh hC4.set;rw [<-hT.out] at HC5;clear hC4;go_wp2_with fail;go_roundw
     case rel=>exact⟨j+1,_,by go_num,by omega,HC5⟩
     case measure=>simp [intOf];omega
  . obtain rfl:j=ks.length:=(by omega);rw [List.take_length] at HC;obtain⟨A5,c5,rfl⟩:=HC.out.form;obtain⟨s0,s1,s2,s3,s4,s5⟩:=Blk.c6 HC.out.ou;obtain⟨r0,r1,r2,r3,r4,r5⟩:=Blk.c6 HC.out.re;obtain⟨fr0,fr1,fr2,fr3,fr4,fr5⟩:=Blk.f6 HC.out.re;have HT:=qh (HC.out.tree rfl HS.out.1 hle HS.out.2);have HZ:=qh (J42 (cs:= [.int .i64 0,.int .u64 0,.int .u64 0,.int .u64 0,.int .u64 0,.slice none 0 0]) HC.out.re rfl k s.a s.b s.c s.d A5 ks.length c5);have HZT:=qh (HT.out.put6 (g:=w.heap.size+1) (λ hh=>hh.2.2 rfl) k s.a s.b s.c s.d A5 ks.length c5);have HZS:=qh (j80 wr (w.heap.size+1) k s.a s.b s.c s.d A5 ks.length c5);have HZB:Hid (Below w.heap.size w ((((((wr.setCell ⟨w.heap.size+1,0,none⟩ (.int .i64 k)).setCell ⟨w.heap.size+1,1,none⟩ (.int .u64 (s.a:Int))).setCell ⟨w.heap.size+1,2,none⟩ (.int .u64 (s.b:Int))).setCell ⟨w.heap.size+1,3,none⟩ (.int .u64 (s.c:Int))).setCell ⟨w.heap.size+1,4,none⟩ (.int .u64 (s.d:Int))).setCell ⟨w.heap.size+1,5,none⟩ (.slice A5 ks.length c5))):=qh ((((((HC.out.be.setCell (p:=⟨w.heap.size+1,0,none⟩) (by dsimp only;omega) _).setCell (p:=⟨w.heap.size+1,1,none⟩) (by dsimp only;omega) _).setCell (p:=⟨w.heap.size+1,2,none⟩) (by dsimp only;omega) _).setCell (p:=⟨w.heap.size+1,3,none⟩) (by dsimp only;omega) _).setCell (p:=⟨w.heap.size+1,4,none⟩) (by dsimp only;omega) _).setCell (p:=⟨w.heap.size+1,5,none⟩) (by dsimp only;omega) _);clear HC HT;go_wp2_with fail;obtain⟨wz,hwz⟩:∃ wz,wz=((((((wr.setCell ⟨w.heap.size+1,0,none⟩ (.int .i64 k)).setCell ⟨w.heap.size+1,1,none⟩ (.int .u64 (s.a:Int))).setCell ⟨w.heap.size+1,2,none⟩ (.int .u64 (s.b:Int))).setCell ⟨w.heap.size+1,3,none⟩ (.int .u64 (s.c:Int))).setCell ⟨w.heap.size+1,4,none⟩ (.int .u64 (s.d:Int))).setCell ⟨w.heap.size+1,5,none⟩ (.slice A5 ks.length c5)):=⟨_,rfl⟩;have hz:=HZ.out;have hzb:=HZB.out;have hzs:=HZS.out;have hzt:=HZT.out;rw [<-hwz] at hz hzb hzs hzt⊢;obtain⟨z0,z1,z2,z3,z4,z5⟩:=Blk.c6 hz
    refine bodyPost_ret (v:= .agg #[.int .i64 k,.int .u64 (s.a:Int),.int .u64 (s.b:Int),.int .u64 (s.c:Int),.int .u64 (s.d:Int),.slice A5 ks.length c5]) (by simp [results,Tryz.results195,go_sem,z0,z1,z2,z3,z4,z5]) rfl ⟨k,s.a,s.b,s.c,s.d,A5,ks.length,c5,rfl,hzt.weak λ b hb=>⟨hb.1,by rw [hzs];exact hb.2.1⟩,hzb⟩
theorem y41:∀ d,XX9 195 d
 |0=>λ r cs B w h=>h.elim
 |d+1=>QS7 d (y41 d)
end Go.Proofs.YtngepacmgabmaaaGreatDoor
