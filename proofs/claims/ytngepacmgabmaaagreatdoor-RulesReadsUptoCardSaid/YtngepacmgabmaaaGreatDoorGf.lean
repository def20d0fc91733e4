/- Walk: rules.readAct: an act out of its t; Append of values that lie in a block jus .. -/
import Derived.Test.YtngepacmgabmaaaGreatDoorGe
import Derived.BigRegion
namespace Go.Proofs.YtngepacmgabmaaaGreatDoor
open Go.RowKit
set_option linter.unusedVariables false
set_option linter.unusedSimpArgs false
def raX (s:ByteArray):Int×Int:=(plW XF4 (y27 s ⟨#[58]⟩).1,if (y27 s ⟨#[58]⟩).2.2=true then rnN (y27 s ⟨#[58]⟩).2.1 else 0)
def raB (s:ByteArray):Bool:=decide (0<(raX s).1)&&((y27 s ⟨#[58]⟩).2.2==decide (0<(raX s).2))
structure A2 (w wr:World) (g:Nat) (k n:Int):Prop where
 r:Blk wr w.heap.size 55 #[.int .i64 0,.int .i64 0]
 v:Blk wr g 55 #[.int .i64 k,.int .i64 n]
 lo:w.heap.size<g
 be:Below w.heap.size w wr
section
variable {w wr:World} {g:Nat} {k n:Int}
theorem A2.lt (h:A2 w wr g k n):g<wr.heap.size:=Blk.lt h.v
theorem A2.num (h:A2 w wr g k n) (n':Int):A2 w (wr.setCell ⟨g,1,none⟩ (.int .i64 n')) g k n':=⟨h.r.far (λ e=>by have:=h.lo;dsimp only at e;omega) _,h.v.set_ 1 _,h.lo,h.be.setCell (p:=⟨g,1,none⟩) (Nat.le_of_lt h.lo) _⟩
theorem A2.facts (h:A2 w wr g k n):wr.cell? ⟨g,0,none⟩=some (.int .i64 k)/\wr.cell? ⟨g,1,none⟩=some (.int .i64 n)/\wr.frozen? ⟨g,0,none⟩=false/\wr.frozen? ⟨g,1,none⟩=false/\g<wr.heap.size/\w.heap.size<g:=
 ⟨h.v.cell 0,h.v.cell 1,h.v.frozen 0,h.v.frozen 1,h.lt,h.lo⟩
theorem A2.res (h:A2 w wr g k n):wr.cell? ⟨w.heap.size,0,none⟩=some (.int .i64 0)/\wr.cell? ⟨w.heap.size,1,none⟩=some (.int .i64 0)/\wr.frozen? ⟨w.heap.size,0,none⟩=false/\wr.frozen? ⟨w.heap.size,1,none⟩=false:=
 ⟨h.r.cell 0,h.r.cell 1,h.r.frozen 0,h.r.frozen 1⟩
theorem A2.put (h:A2 w wr g k n):∃ wz,wz=((wr.setCell ⟨w.heap.size,0,none⟩ (.int .i64 k)).setCell ⟨w.heap.size,1,none⟩ (.int .i64 n))/\Below w.heap.size w wz/\wz.cell? ⟨w.heap.size,0,none⟩=some (.int .i64 k)/\wz.cell? ⟨w.heap.size,1,none⟩=some (.int .i64 n):=by
 have h2:=(h.r.set_ 0 (.int .i64 k)).set_ 1 (.int .i64 n);exact⟨_,rfl,(h.be.setCell (p:=⟨w.heap.size,0,none⟩) (Nat.le_refl _) _).setCell (p:=⟨w.heap.size,1,none⟩) (Nat.le_refl _) _,h2.cell 0,h2.cell 1⟩
end
section
variable (s:ByteArray) (m:Int) (w:World)
set_option maxRecDepth 100000 in
set_option maxHeartbeats 4000000 in
theorem Y50 (hs:s.size<=1048576) (hm:w.cell? ⟨4,0,none⟩=some (.int .i64 m)):
 Calls Tryz.prog 43 #[.string s] w λ e w'=>e= .returned (.tuple #[.agg #[.int .i64 (raX s).1,.int .i64 (raX s).2],.bool (raB s)])/\Below w.heap.size w w':=by
 have hg:=World.block_lt_of_cell? _ _ hm;have CC:=qh λ w' (hb:Below w.heap.size w w')=>YN5 s ⟨#[58]⟩ m w' hs ((hb.cell (p:=⟨4,0,none⟩) hg).trans hm)
 have hsz:=(Jb0 s ⟨#[58]⟩).2;have hX:raX s=(plW XF4 (y27 s ⟨#[58]⟩).1,if (y27 s ⟨#[58]⟩).2.2=true then rnN (y27 s ⟨#[58]⟩).2.1 else 0):=rfl;have hB:raB s=(decide (0<(raX s).1)&&((y27 s ⟨#[58]⟩).2.2==decide (0<(raX s).2))):=rfl;obtain⟨C,hC⟩:∃ C,C=y27 s ⟨#[58]⟩:=⟨_,rfl⟩;rw [<-hC] at CC hX hB hsz;obtain⟨a,b,ok⟩:=C;dsimp only at CC hX hB hsz;have CPl:=qh λ w'=>Zi3 a w'
 have CN:=qh λ w'=>zh5 b w' (by unfold maxLen;omega)
 obtain⟨K,hK⟩:∃ K,K=plW XF4 a:=⟨_,rfl⟩;obtain⟨N,hN⟩:∃ N,N=rnN b:=⟨_,rfl⟩;rw [<-hK] at CPl hX;rw [<-hN] at CN hX;rw [hX] at hB⊢;dsimp only at hB⊢;obtain⟨R,hR⟩:∃ R,R=raB s:=⟨_,rfl⟩;rw [<-hR] at hB⊢;have HB:=qh hB;clear hK hN hX hR hB hC hm hsz;have hb0:Below w.heap.size w (w.alloc (.cells #[.int .i64 0,.int .i64 0] 55)):=(Below.refl _ _).alloc (Nat.le_refl _) _;go_enter Tryz.func43,Tryz.ntmps43;go_wp2_with fail;refine(CC.out _ hb0).mono ?_;rintro e w2 ⟨rfl,q,hq⟩;have hv2:Below w.heap.size w w2:=by rw [hq];exact below_drewN hb0 q
 have hr2:Blk w2 w.heap.size 55 #[.int .i64 0,.int .i64 0]:=by rw [hq];exact(Blk.new w 55 #[.int .i64 0,.int .i64 0]).drewN q
 have hlt2:w.heap.size<w2.heap.size:=Blk.lt hr2;obtain⟨W3,hW3⟩:∃ W3,w2.alloc (.cells #[.int .i64 K,.int .i64 0] 55)=W3:=⟨_,rfl⟩;have HV3:Hid (A2 w W3 w2.heap.size K 0):=qh (by rw [<-hW3];exact⟨hr2.alloc _,Blk.new _ _ _,hlt2,hv2.alloc hv2.size _⟩);clear hq hv2 hr2 CC hb0;obtain⟨g7,hg7⟩:∃ g7,g7=w2.heap.size:=⟨_,rfl⟩;cases ok with
 |true=>
  have HN:Hid (R=(decide (0<K)&&(true==decide (0<N)))):=HB;obtain⟨f0,f1,f2,f3,f4,f5⟩:=HV3.out.facts;obtain⟨Wa,hWa⟩:∃ Wa,W3.setCell ⟨w2.heap.size,1,none⟩ (.int .i64 0)=Wa:=⟨_,rfl⟩;have HVa:Hid (A2 w Wa w2.heap.size K 0):=qh (by rw [<-hWa];exact HV3.out.num 0);obtain⟨a0,a1,a2,a3,a4,a5⟩:=HVa.out.facts;obtain⟨W4,hW4⟩:∃ W4,Wa.setCell ⟨w2.heap.size,1,none⟩ (.int .i64 N)=W4:=⟨_,rfl⟩;have HV4:Hid (A2 w W4 w2.heap.size K N):=qh (by rw [<-hW4];exact HVa.out.num N);clear HB;go_wp2_with (first|(go_at_call 45;refine(CPl.out _).mono ?_;rintro e w' ⟨rfl,rfl⟩)|(go_at_call 14;refine(CN.out _).mono ?_;rintro e w' ⟨rfl,rfl⟩)|fail);clear f0 f1 f2 f3 f4 f5 HV3 a0 a1 a2 a3 a4 a5 HVa;obtain⟨c0,c1,_,_,c4,c5⟩:=HV4.out.facts;obtain⟨r0,r1,r2,r3⟩:=HV4.out.res;by_cases hk:0<K
  . have k1:decide ((0:Int)<K)=true:=dT hk;by_cases hn:0<N
    focus
     have n1:decide ((0:Int)<N)=true:=dT hn;have HF:Hid (R=true):=qh (by rw [HN.out,k1,n1];rfl)
    rotate_left
    focus
     have n1:decide ((0:Int)<N)=false:=dF hn;have HF:Hid (R=false):=qh (by rw [HN.out,k1,n1];rfl)
    all_goals
     clear hk hn HN;go_region
     all_goals go_wp2_with fail
     all_goals
      obtain⟨wz,hwz,hzb,z0,z1⟩:=HV4.out.put;rw [<-hwz];refine bodyPost_ret (v:= .tuple #[.agg #[.int .i64 K,.int .i64 N],.bool R]) (by rw [HF.out];simp [results,Tryz.results43,go_sem,z0,z1]) rfl ⟨rfl,hzb.drew⟩
  . have k1:decide ((0:Int)<K)=false:=dF hk;have HF:Hid (R=false):=qh (by rw [HN.out,k1];rfl);clear hk HN;go_region
    all_goals go_wp2_with fail
    all_goals
     obtain⟨wz,hwz,hzb,z0,z1⟩:=HV4.out.put;rw [<-hwz];refine bodyPost_ret (v:= .tuple #[.agg #[.int .i64 K,.int .i64 N],.bool R]) (by rw [HF.out];simp [results,Tryz.results43,go_sem,z0,z1]) rfl ⟨rfl,hzb.drew⟩
 |false=>
  have HN:Hid (R=decide (0<K)):=qh (by rw [HB.out];cases decide (0<K)<;>rfl);obtain⟨f0,f1,f2,f3,f4,f5⟩:=HV3.out.facts;obtain⟨Wa,hWa⟩:∃ Wa,W3.setCell ⟨w2.heap.size,1,none⟩ (.int .i64 0)=Wa:=⟨_,rfl⟩;have HVa:Hid (A2 w Wa w2.heap.size K 0):=qh (by rw [<-hWa];exact HV3.out.num 0);obtain⟨c0,c1,_,_,c4,c5⟩:=HVa.out.facts;obtain⟨r0,r1,r2,r3⟩:=HVa.out.res;have n1:decide ((0:Int)<0)=false:=by decide
  clear HB;by_cases hk:0<K
  focus
   have k1:decide ((0:Int)<K)=true:=dT hk;have HF:Hid (R=true):=qh (by rw [HN.out,k1])
  rotate_left
  focus
   have k1:decide ((0:Int)<K)=false:=dF hk;have HF:Hid (R=false):=qh (by rw [HN.out,k1])
  all_goals
   clear hk HN;go_wp2_with (first|(go_at_call 45;refine(CPl.out _).mono ?_;rintro e w' ⟨rfl,rfl⟩)|fail);go_region
   all_goals go_wp2_with fail
   all_goals
    obtain⟨wz,hwz,hzb,z0,z1⟩:=HVa.out.put;rw [<-hwz];refine bodyPost_ret (v:= .tuple #[.agg #[.int .i64 K,.int .i64 0],.bool R]) (by rw [HF.out];simp [results,Tryz.results43,go_sem,z0,z1]) rfl ⟨rfl,hzb.drew⟩
end
structure Grew (w w':World) (v v':Value):Prop where
 grown:w.grownBy w' v.ownBlock
 home:v'.ownBlock=v.ownBlock\/∃ g,v'.ownBlock=some g/\w.heap.size<=g
theorem Grew.refl (w:World) (v:Value):Grew w w v v:=⟨World.grownBy.refl _ _,.inl rfl⟩
theorem Grew.trans {w w1 w2:World} {v v1 v2:Value} (h:Grew w w1 v v1) (k:Grew w1 w2 v1 v2):Grew w w2 v v2:=by
 have e:=h.grown;have f:=k.grown;refine⟨⟨f.os.trans e.os,f.tape.trans e.tape,f.output.trans e.output,Nat.le_trans e.size f.size,λ g hg hne=> ?_⟩,?_⟩
 . have h2:some g≠v1.ownBlock:=by
    rcases h.home with h|⟨x,h,hx⟩
    . rw [h];exact hne
    . rw [h];intro e;injection e with e;omega
   exact(f.block g (Nat.lt_of_lt_of_le hg e.size) h2).trans (e.block g hg hne)
 . rcases k.home with k|⟨x,k,hx⟩
   . rw [k];exact h.home
   . exact .inr ⟨x,k,Nat.le_trans e.size hx⟩
theorem Grew.blk {w w':World} {v v':Value} (h:Grew w w' v v') {g:Nat} {t:TypeId} {cs:Array Value} (hb:Blk w g t cs) (hne:v.ownBlock≠some g):Blk w' g t cs:=hb.grown h.grown λ e=>hne e.symm
theorem Grew.off {w w':World} {v v':Value} (h:Grew w w' v v') {g:Nat} (hg:g<w.heap.size) (hne:v.ownBlock≠some g):v'.ownBlock≠some g:=by
 rcases h.home with e|⟨x,e,hx⟩
 . rw [e];exact hne
 . rw [e];intro k;injection k with k;omega
theorem Grew.below {w w':World} {v v':Value} (h:Grew w w' v v') {B:Nat} (hB:B<=w.heap.size) (hv:∀ g,v.ownBlock=some g->B<=g):Below B w w':=(Below.refl _ _).grown h.grown hB hv
theorem Grew.drew {w w':World} {v v':Value} (h:Grew w w' v v'):Grew w w'.drew v v':=⟨⟨h.grown.os,h.grown.tape,h.grown.output,h.grown.size,h.grown.block⟩,h.home⟩
theorem Grew.drewN {w w':World} {v v':Value} (h:Grew w w' v v') (n:Nat):Grew w (w'.drewN n) v v':=⟨⟨h.grown.os,h.grown.tape,h.grown.output,h.grown.size,h.grown.block⟩,h.home⟩
theorem Grew.of_below {w w':World} (hb:Below w.heap.size w w') (v:Value):Grew w w' v v:=⟨⟨hb.os,hb.tape,hb.output,hb.size,λ k hk _=>hb.block k hk⟩,.inl rfl⟩
theorem Grew.reads {w w':World} {v v':Value} (h:Grew w w' v v') {B size n:Nat} {A:Option Addr} {xs:List Value} (hr:Reads w B size A n xs) (hB:B<=w.heap.size) (hv:∀ g,v.ownBlock=some g->B<=g):Reads w' B size A n xs:=
 hr.grown h.grown hB λ g e=>hv g e
theorem Kw5 {w:World} {B:Nat} {E:TypeId} {size n:Nat} {v:Value} {xs:List Value} (h:w.ownsRow B E size v n xs):∀ g,v.ownBlock=some g->B<=g:=λ g hg=>(World.ownsRow.lt h g hg).1
section
variable {P:Program} {w:World} {B:Nat} {t E:TypeId} {i:TypeInfo} {z:Value} {size bytes:Nat}
theorem JO2 (ht:P.underlying t=some (.slice E)) (hi:P.info? E=some i) (hz:i.zero=some z) (hsize:i.size=size) (hby:i.bytes=bytes) (hzs:z.cells.size=size) (hsz:0<size)
 {v:Value} {n:Nat} {xs:List Value} (h:w.ownsRow B E size v n xs) (vals:List Value) (m:Nat) (hm:vals.length=m*size) (h1:∀ u∈vals,u.oneCell'=true)
 (h63:n+m<=maxLen) (hbytes:(n+m)*bytes<=140737488355328) (hB:B<=w.heap.size) (ty:TypeId) (c:Nat):
 ∃ v' w',(Builtin.append_ #[t,t] ty #[v,.slice (some ⟨w.heap.size,0,none⟩) m c]).run P (w.alloc (.cells vals.toArray E))= .ok v' w'/\
  w'.ownsRow B E size v' (n+m) (xs++vals)/\Grew w w' v v':=by
 obtain⟨v',w',h0,h2,h3,_,h5⟩:=run_append_own_at (P:=P) (w.alloc (.cells vals.toArray E)) B t ty E i z size bytes ht hi hz hsize hby hzs hsz v n xs (World.ownsRow.alloc h _)
  ⟨w.heap.size,0,none⟩ m c vals hm (by
   intro j u hu;have hadd:(⟨w.heap.size,0,none⟩:Addr).add j=⟨w.heap.size,j,none⟩:=(by unfold Addr.add;split<;>simp_all);rw [hadd,(Blk.new w E vals.toArray).cell j]
   simpa using hu) h1 h63 hbytes (by simp;omega)
 refine⟨v',w',h0,h2,⟨⟨h3.os,h3.tape,h3.output,Nat.le_trans (by simp) h3.size,λ k hk hne=> ?_⟩,?_⟩⟩
 . exact(h3.block k (by simp;omega) hne).trans (Below.heap_alloc w _ k hk)
 . rcases h5 with h5|h5
   . exact .inl h5
   . exact .inr ⟨_,h5,by simp⟩
theorem qB3 {o:Oper} {a:Act} {K:Act->World->Prop} {Q:Exit->Act->World->Prop} (s x:Operand)
 (ho:o.op= .call {callee:= .builtin .append,args:=#[s,x],argTypes:=#[t,t]})
 (ht:P.underlying t=some (.slice E)) (hi:P.info? E=some i) (hz:i.zero=some z) (hsize:i.size=size) (hby:i.bytes=bytes) (hzs:z.cells.size=size) (hsz:0<size)
 {v:Value} {n:Nat} {xs:List Value} (h:w.ownsRow B E size v n xs) (hs:a.eval s=v) (vals:List Value) (m c:Nat)
 (hx:a.eval x= .slice (some ⟨w.heap.size,0,none⟩) m c) (hm:vals.length=m*size) (h1:∀ u∈vals,u.oneCell'=true)
 (h63:n+m<=maxLen) (hbytes:(n+m)*bytes<=140737488355328) (hB:B<=w.heap.size)
 (hK:∀ v' w',w'.ownsRow B E size v' (n+m) (xs++vals)->Grew w w' v v'->K (a.put o.dst v') w'):o.wp P a (w.alloc (.cells vals.toArray E)) K Q:=by
 obtain⟨v',w',hrun,h2,h3⟩:=JO2 ht hi hz hsize hby hzs hsz h vals m hm h1 h63 hbytes hB o.type c;unfold Oper.wp execOp;simp only [ho,resolve,invoke,builtin,Sem.run_bind,Sem.run_pure,Result.andThen_ok,List.map_toArray,List.map_cons,List.map_nil,hs,hx,hrun];exact hK v' w' h2 h3
theorem zM8 {ops:Array Oper} {rest:List Oper} {o:Oper} {a:Act} {Q:Exit->Act->World->Prop} (hgd:o.guard=none) (s x:Operand)
 (ho:o.op= .call {callee:= .builtin .append,args:=#[s,x],argTypes:=#[t,t]})
 (ht:P.underlying t=some (.slice E)) (hi:P.info? E=some i) (hz:i.zero=some z) (hsize:i.size=size) (hby:i.bytes=bytes) (hzs:z.cells.size=size) (hsz:0<size)
 {v:Value} {n:Nat} {xs:List Value} (h:w.ownsRow B E size v n xs) (hs:a.eval s=v) (vals:List Value) (m c:Nat)
 (hx:a.eval x= .slice (some ⟨w.heap.size,0,none⟩) m c) (hm:vals.length=m*size) (h1:∀ u∈vals,u.oneCell'=true)
 (h63:n+m<=maxLen) (hbytes:(n+m)*bytes<=140737488355328) (hB:B<=w.heap.size)
 (hK:∀ v' w',w'.ownsRow B E size v' (n+m) (xs++vals)->Grew w w' v v'->wpList P ops Q rest (a.put o.dst v') w'):
 wpList P ops Q (o::rest) a (w.alloc (.cells vals.toArray E)):=
 wpList_plain hgd λ _ hK'=>qB3 s x ho ht hi hz hsize hby hzs hsz h hs vals m c hx hm h1 h63 hbytes hB λ v' w' h2 h3=>hK' _ _ (hK v' w' h2 h3)
theorem xP0 {ops:Array Oper} {o:Oper} {a:Act} {K:Act->World->Prop} {Q:Exit->Act->World->Prop} {F:Prop} (hgd:o.guard=none) (s x:Operand)
 (ho:o.op= .call {callee:= .builtin .append,args:=#[s,x],argTypes:=#[t,t]})
 (ht:P.underlying t=some (.slice E)) (hi:P.info? E=some i) (hz:i.zero=some z) (hsize:i.size=size) (hby:i.bytes=bytes) (hzs:z.cells.size=size) (hsz:0<size)
 {v:Value} {n:Nat} {xs:List Value} (h:w.ownsRow B E size v n xs) (hs:a.eval s=v) (vals:List Value) (m c:Nat)
 (hx:a.eval x= .slice (some ⟨w.heap.size,0,none⟩) m c) (hm:vals.length=m*size) (h1:∀ u∈vals,u.oneCell'=true)
 (h63:n+m<=maxLen) (hbytes:(n+m)*bytes<=140737488355328) (hB:B<=w.heap.size)
 (hK:∀ v' w',w'.ownsRow B E size v' (n+m) (xs++vals)->Grew w w' v v'->K (a.put o.dst v') w'):
 if Region.wanted o (yielded ops a.tmps)=true then Oper.wp P o a (w.alloc (.cells vals.toArray E)) K Q else F:=by
 have hw:Region.wanted o (yielded ops a.tmps)=true:=by simp [Region.wanted,hgd]
 rw [if_pos hw];exact qB3 s x ho ht hi hz hsize hby hzs hsz h hs vals m c hx hm h1 h63 hbytes hB hK
end
theorem KY7:(Tryz.prog.info? 9).map (λ i=>(i.zero,i.size,i.bytes))=some (some (.string ByteArray.empty),1,16):=by kernel_rfl
def OS (w:World) (B:Nat) (v:Value) (l:List ByteArray):Prop:=w.ownsRow B 9 1 v l.length (l.map Value.string)
theorem OS.nil (w:World) (B:Nat):OS w B (.slice none 0 0) []:=World.ownsRow_nil _ _ _ _
section
variable {w w':World} {B:Nat} {v v':Value} {l:List ByteArray}
theorem OS.drew (h:OS w B v l):OS w.drew B v l:=h
theorem OS.drewN (h:OS w B v l) (n:Nat):OS (w.drewN n) B v l:=h
theorem OS.alloc (h:OS w B v l) (o:Obj):OS (w.alloc o) B v l:=World.ownsRow.alloc h o
theorem OS.mono {B':Nat} (h:OS w B v l) (hB:B'<=B):OS w B' v l:=by
 refine⟨h.1,?_⟩;rcases h.2 with h2|⟨g,cap,cur,e1,e2,e3⟩
 . exact .inl h2
 . exact .inr ⟨g,cap,cur,e1,Nat.le_trans hB e2,e3⟩
theorem OS.kept (h:OS w B v l) (hb:Below w.heap.size w w'):OS w' B v l:=by
 refine World.ownsRow.kept (row:=none) h ⟨hb.os,hb.tape,hb.output,hb.size,λ k hk _=>hb.block k hk⟩ ?_;cases v.ownBlock<;>simp
theorem OS.form (h:OS w B v l):∃ A c,v= .slice A l.length c:=by
 rcases h.2 with⟨rfl,hn⟩|⟨g,cap,cur,rfl,_⟩
 . exact⟨none,0,by rw [hn]⟩
 . exact⟨_,_,rfl⟩
theorem OS.at_ {A:Option Addr} {c:Nat} (h:OS w B (.slice A l.length c) l) (hn:0<l.length):∃ g,A=some ⟨g,0,none⟩/\B<=g/\g<w.heap.size/\l.length<=c/\∀ k (hk:k<l.length),w.cell? ⟨g,k,none⟩=some (.string l[k]):=by
 rcases h.2 with⟨_,h2⟩|⟨g,c',cur,e1,hB,hh,hnc,_⟩
 . omega
 . injection e1 with e1 _ e3;subst e1 e3;refine⟨g,rfl,hB,Blk.lt (t:=9) (cs:=cur) hh,hnc,λ k hk=> ?_⟩;rw [World.ownsRow.cellAt h k (by omega),List.getElem?_map,List.getElem?_eq_getElem hk];rfl
theorem OS.cut {A:Option Addr} {c n:Nat} (h:OS w B (.slice A l.length c) l) (hn:n<=l.length) (h0:0<l.length):OS w B (.slice A n c) (l.take n):=by
 rcases h.2 with⟨_,h2⟩|⟨g,c',cur,e1,hB,hh,hnc,hm,hcs,ht⟩
 . omega
 . injection e1 with e1 _ e3;subst e1 e3;have hl:(l.take n).length=n:=(by rw [List.length_take];omega);unfold OS;rw [hl];refine⟨by simp;omega,.inr ⟨g,c,cur,rfl,hB,hh,by omega,hm,hcs,?_⟩⟩;rw [List.map_take,<-ht,List.take_take,Nat.mul_one,Nat.mul_one,Nat.min_eq_left hn]
theorem OS.reads {A:Option Addr} {c:Nat} (h:OS w B (.slice A l.length c) l):Reads w w.heap.size 1 A l.length (l.map Value.string):=Reads.of_own h
theorem jN8 {ops:Array Oper} {rest:List Oper} {o:Oper} {a:Act} {Q:Exit->Act->World->Prop} (hgd:o.guard=none) (s x:Operand)
 (ho:o.op= .call {callee:= .builtin .append,args:=#[s,x],argTypes:=#[37,37]})
 (h:OS w B v l) (hs:a.eval s=v) (p:ByteArray)
 (hx:a.eval x= .slice (some ⟨w.heap.size,0,none⟩) 1 1) (hlen:l.length<=1000000000000) (hB:B<=w.heap.size)
 (hK:∀ v' w',OS w' B v' (l++ [p])->Grew w w' v v'->Below B w w'->wpList Tryz.prog ops Q rest (a.put o.dst v') w'):
 wpList Tryz.prog ops Q (o::rest) a (w.alloc (.cells #[.string p] 9)):=by
 obtain⟨i0,hi0,hz0,hz1,hz2⟩:=info_parts KY7
 refine zM8 (P:=Tryz.prog) (Q:=Q) (rest:=rest) (ops:=ops) hgd s x ho Tryz.underlying37 hi0 hz0 hz1 hz2 rfl (by decide) h hs [.string p] 1 1 hx rfl (by
  intro u hu;rw [List.mem_singleton] at hu;rw [hu];rfl) (by unfold maxLen;omega) (by omega) hB λ v' w' h2 h3=>hK v' w' ?_ h3 (h3.below hB (Kw5 h))
 unfold OS;rw [List.length_append,List.map_append];exact h2
end
def pcs (s t:ByteArray):List ByteArray:=Lib.splitB t 0 (Lib.countB s t) s
theorem xR1 {s t:ByteArray} (h:Lib.indexB s t= -1):pcs s t= [s]:=by unfold pcs;exact Lib.splitB_miss _ _ _ _ h
theorem j06 {s t:ByteArray} {i:Nat} (h1:1<=t.size) (h:Lib.indexB s t=i):pcs s t=s.extract 0 i::pcs (s.extract (i+t.size) s.size) t:=by
 unfold pcs;rw [Lib.countB_hit s t i h1 h,Nat.add_comm 1,Lib.splitB_hit _ _ _ _ _ h];rfl
theorem zW4 {s t:ByteArray} (h1:1<=t.size):(pcs s t).length=Lib.countB s t+1:=Lib.splitB_all t h1 0 _ s rfl
theorem jy8 {s t:ByteArray} (h1:1<=t.size):(pcs s t).length<=s.size+1:=by rw [zW4 h1];have:=Lib.countB_le t h1 s.size s (Nat.le_refl _);omega
theorem Qw2 (s t:ByteArray) (h1:1<=t.size):0<(pcs s t).length:=by rw [zW4 h1];omega
theorem zN9 (t:ByteArray) (h1:1<=t.size):∀ (n:Nat) (s:ByteArray),s.size<=n->∀ x∈pcs s t,x.size<=s.size
 |n,s,hn,x,hx=>by
  rcases Lib.indexB_cases s t with h|⟨i,h,hr⟩
  . rw [xR1 h,List.mem_singleton] at hx;rw [hx];exact Nat.le_refl _
  . rw [j06 h1 h,List.mem_cons] at hx;have e2:(s.extract (i+t.size) s.size).size=s.size-(i+t.size):=(by rw [ByteArray.size_extract];omega);rcases hx with rfl|hx
    . rw [ByteArray.size_extract];omega
    . match n with
      |0=>omega
      |n+1=>have:=zN9 t h1 n _ (by omega) x hx;omega
set_option maxHeartbeats 1000000 in
theorem Z13 (s t:ByteArray) (w:World) (hs:s.size<=1048576) (ht:t.size<=140737488355328) (h1:1<=t.size):
 Calls Tryz.prog 17 #[.string s,.string t] w λ e w'=>∃ v,e= .returned v/\OS w' w.heap.size v (pcs s t)/\Below w.heap.size w w':=by
 go_enter Tryz.func17,Tryz.ntmps17;go_wp2_with fail;go_loopw [0,5] (λ x v wr=>∃ (S:ByteArray) (D:List ByteArray),x= .string S/\D.length+S.size<=s.size/\Hid (pcs s t=D++pcs S t)/\OS wr w.heap.size v D/\Below w.heap.size w wr) (λ x _ _=>match x with| .string S=>S.size|_=>0)
 case atStart=>exact⟨s,[],rfl,by simp,rfl,OS.nil _ _,Below.refl _ _⟩
 case round=>
  obtain⟨S,D,rfl,hS,HP,ho,hb⟩:=hrel;have HO:=qh ho;have HB:=qh hb;have hsz:w.heap.size<=wr.heap.size:=hb.size;clear ho hb;rcases Lib.indexB_cases S t with h|⟨i,h,hr⟩
  . have CS:=qh (ju1 S t wr (by omega) ht h);have HR:Hid (pcs s t=D++ [S]):=(by show _=_;rw [HP.out,xR1 h]);clear h;go_wp2_with fail;refine CS.out.mono ?_;rintro e w1 ⟨rfl,q,rfl⟩;go_wp2_with (at_builtin;refine jN8 rfl (.tmp 16) (.tmp 18) rfl (HO.out.drewN q) rfl S rfl (by omega) hsz ?_;intro v' w2 ho2 hg2 hb2;have HO2:=qh ho2;have HB2:=qh hb2;clear ho2 hg2 hb2);go_ret;exact⟨_,rfl,by rw [HR.out];exact HO2.out,(below_drewN HB.out q).trans HB2.out⟩
  . have CS:=qh (QJ2 S t wr (by omega) ht i h hr);have HR:Hid (pcs s t=(D++ [S.extract 0 i])++pcs (S.extract (i+t.size) S.size) t):=(by show _=_;rw [HP.out,j06 h1 h];simp);have e2:(S.extract (i+t.size) S.size).size=S.size-(i+t.size):=(by rw [ByteArray.size_extract];omega);obtain⟨S2,hS2⟩:∃ S2,S2=S.extract (i+t.size) S.size:=⟨_,rfl⟩;obtain⟨P,hP⟩:∃ P,P=S.extract 0 i:=⟨_,rfl⟩;rw [<-hS2] at HR e2 CS;rw [<-hP] at HR CS;clear h hS2 hP;have hS2:S2.size<S.size:=(by omega);have hS3:D.length+1+S2.size<=s.size:=(by omega);clear e2;go_wp2_with fail;refine CS.out.mono ?_;rintro e w1 ⟨rfl,q,rfl⟩;go_wp2_with (at_builtin;refine jN8 rfl (.tmp 16) (.tmp 18) rfl (HO.out.drewN q) rfl P rfl (by omega) hsz ?_;intro v' w2 ho2 hg2 hb2;have HO2:=qh ho2;have HB2:=qh hb2;clear ho2 hg2 hb2);go_roundw
    case rel=>exact⟨S2,D++ [P],rfl,by rw [List.length_append,List.length_singleton];exact hS3,HR,HO2.out,(below_drewN HB.out q).trans HB2.out⟩
    case measure=>exact hS2
theorem qQ5 (s t:ByteArray) (m:Int) (w:World) (hs:s.size<=1048576) (hm:w.cell? ⟨4,0,none⟩=some (.int .i64 m)) (h1:1<=t.size):
 Calls Tryz.prog 13 #[.string s,.string t] w λ e w'=>e= .returned (.slice (some ⟨w.heap.size,0,none⟩) (pcs s t).length (pcs s t).length)/\OS w' w.heap.size (.slice (some ⟨w.heap.size,0,none⟩) (pcs s t).length (pcs s t).length) (pcs s t)/\Below w.heap.size w w':=by
 have hl:=zW4 (s:=s) h1;have hle:=jy8 (s:=s) h1;refine(Tryz.strings_Split s t m w (by omega) hm h1).mono λ e w' ⟨h2,h3⟩=> ?_
 refine⟨by rw [h2,hl],?_,by rw [h3];exact(Below.refl _ _).alloc (Nat.le_refl _) _⟩;rw [h3];have:=World.ownsRow_lit (base:=w.heap.size) (e:=9) (size:=1) w ((pcs s t).map Value.string).toArray (pcs s t).length (Nat.le_refl _) (by unfold maxLen;omega) (by simp);exact this
end Go.Proofs.YtngepacmgabmaaaGreatDoor
