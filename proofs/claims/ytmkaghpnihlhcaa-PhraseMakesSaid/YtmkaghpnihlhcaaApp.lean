/- Append of values that lie in a block just made, onto a slice of the call's own, whatever the elements' type: what is kept of the other blocks is told too. -/
import Derived.Test.YtmkaghpnihlhcaaBytes
import Derived.Maps.AppendAt
namespace Go.Proofs.Ytmkaghpnihlhcaa
open Go.RowKit
set_option linter.unusedVariables false
set_option linter.unusedSimpArgs false
structure Grew (w w':World) (v v':Value):Prop where
 grown:w.grownBy w' v.ownBlock
 home:v'.ownBlock=v.ownBlock∨∃ g,v'.ownBlock=some g∧w.heap.size≤g
theorem Grew.refl (w:World) (v:Value):Grew w w v v:=⟨World.grownBy.refl _ _,.inl rfl⟩
theorem Grew.trans {w w1 w2:World} {v v1 v2:Value} (h:Grew w w1 v v1) (k:Grew w1 w2 v1 v2):Grew w w2 v v2:=by
 have e:=h.grown;have f:=k.grown
 refine⟨⟨f.os.trans e.os,f.tape.trans e.tape,f.output.trans e.output,Nat.le_trans e.size f.size,fun g hg hne=> ?_⟩,?_⟩
 · have h2:some g≠v1.ownBlock:=by
    rcases h.home with h|⟨x,h,hx⟩
    · rw [h];exact hne
    · rw [h];intro e;injection e with e;omega
   exact(f.block g (Nat.lt_of_lt_of_le hg e.size) h2).trans (e.block g hg hne)
 · rcases k.home with k|⟨x,k,hx⟩
   · rw [k];exact h.home
   · exact .inr ⟨x,k,Nat.le_trans e.size hx⟩
theorem Grew.blk {w w':World} {v v':Value} (h:Grew w w' v v') {g:Nat} {t:TypeId} {cs:Array Value} (hb:Blk w g t cs) (hne:v.ownBlock≠some g):Blk w' g t cs:=hb.grown h.grown fun e=>hne e.symm
theorem Grew.off {w w':World} {v v':Value} (h:Grew w w' v v') {g:Nat} (hg:g<w.heap.size) (hne:v.ownBlock≠some g):v'.ownBlock≠some g:=by
 rcases h.home with e|⟨x,e,hx⟩
 · rw [e];exact hne
 · rw [e];intro k;injection k with k;omega
theorem Grew.below {w w':World} {v v':Value} (h:Grew w w' v v') {B:Nat} (hB:B≤w.heap.size) (hv:∀ g,v.ownBlock=some g→B≤g):Below B w w':=(Below.refl _ _).grown h.grown hB hv
theorem Grew.drew {w w':World} {v v':Value} (h:Grew w w' v v'):Grew w w'.drew v v':=⟨⟨h.grown.os,h.grown.tape,h.grown.output,h.grown.size,h.grown.block⟩,h.home⟩
theorem Grew.drewN {w w':World} {v v':Value} (h:Grew w w' v v') (n:Nat):Grew w (w'.drewN n) v v':=⟨⟨h.grown.os,h.grown.tape,h.grown.output,h.grown.size,h.grown.block⟩,h.home⟩
theorem Grew.of_below {w w':World} (hb:Below w.heap.size w w') (v:Value):Grew w w' v v:=⟨⟨hb.os,hb.tape,hb.output,hb.size,fun k hk _=>hb.block k hk⟩,.inl rfl⟩
theorem Grew.reads {w w':World} {v v':Value} (h:Grew w w' v v') {B size n:Nat} {A:Option Addr} {xs:List Value} (hr:Reads w B size A n xs) (hB:B≤w.heap.size) (hv:∀ g,v.ownBlock=some g→B≤g):Reads w' B size A n xs:=
 hr.grown h.grown hB fun g e=>hv g e
theorem own_from {w:World} {B:Nat} {E:TypeId} {size n:Nat} {v:Value} {xs:List Value} (h:w.ownsRow B E size v n xs):∀ g,v.ownBlock=some g→B≤g:=fun g hg=>(World.ownsRow.lt h g hg).1
section
variable {P:Program} {w:World} {B:Nat} {t E:TypeId} {i:TypeInfo} {z:Value} {size bytes:Nat}
theorem run_appG (ht:P.underlying t=some (.slice E)) (hi:P.info? E=some i) (hz:i.zero=some z) (hsize:i.size=size) (hby:i.bytes=bytes) (hzs:z.cells.size=size) (hsz:0<size)
 {v:Value} {n:Nat} {xs:List Value} (h:w.ownsRow B E size v n xs) (vals:List Value) (m:Nat) (hm:vals.length=m*size) (h1:∀ u∈vals,u.oneCell'=true)
 (h63:n+m≤maxLen) (hbytes:(n+m)*bytes≤140737488355328) (hB:B≤w.heap.size) (ty:TypeId) (c:Nat):
 ∃ v' w',(Builtin.append_ #[t,t] ty #[v,.slice (some ⟨w.heap.size,0,none⟩) m c]).run P (w.alloc (.cells vals.toArray E))= .ok v' w'∧
  w'.ownsRow B E size v' (n+m) (xs++vals)∧Grew w w' v v':=by
 obtain⟨v',w',h0,h2,h3,_,h5⟩:=run_append_own_at (P:=P) (w.alloc (.cells vals.toArray E)) B t ty E i z size bytes ht hi hz hsize hby hzs hsz v n xs (World.ownsRow.alloc h _)
  ⟨w.heap.size,0,none⟩ m c vals hm (by
   intro j u hu
   have hadd:(⟨w.heap.size,0,none⟩:Addr).add j=⟨w.heap.size,j,none⟩:=by unfold Addr.add;split<;>simp_all
   rw [hadd,(Blk.new w E vals.toArray).cell j]
   simpa using hu) h1 h63 hbytes (by simp;omega)
 refine⟨v',w',h0,h2,⟨⟨h3.os,h3.tape,h3.output,Nat.le_trans (by simp) h3.size,fun k hk hne=> ?_⟩,?_⟩⟩
 · exact(h3.block k (by simp;omega) hne).trans (Below.heap_alloc w _ k hk)
 · rcases h5 with h5|h5
   · exact .inl h5
   · exact .inr ⟨_,h5,by simp⟩
theorem wp_appG {o:Oper} {a:Act} {K:Act→World→Prop} {Q:Exit→Act→World→Prop} (s x:Operand)
 (ho:o.op= .call {callee:= .builtin .append,args:=#[s,x],argTypes:=#[t,t]})
 (ht:P.underlying t=some (.slice E)) (hi:P.info? E=some i) (hz:i.zero=some z) (hsize:i.size=size) (hby:i.bytes=bytes) (hzs:z.cells.size=size) (hsz:0<size)
 {v:Value} {n:Nat} {xs:List Value} (h:w.ownsRow B E size v n xs) (hs:a.eval s=v) (vals:List Value) (m c:Nat)
 (hx:a.eval x= .slice (some ⟨w.heap.size,0,none⟩) m c) (hm:vals.length=m*size) (h1:∀ u∈vals,u.oneCell'=true)
 (h63:n+m≤maxLen) (hbytes:(n+m)*bytes≤140737488355328) (hB:B≤w.heap.size)
 (hK:∀ v' w',w'.ownsRow B E size v' (n+m) (xs++vals)→Grew w w' v v'→K (a.put o.dst v') w'):o.wp P a (w.alloc (.cells vals.toArray E)) K Q:=by
 obtain⟨v',w',hrun,h2,h3⟩:=run_appG ht hi hz hsize hby hzs hsz h vals m hm h1 h63 hbytes hB o.type c
 unfold Oper.wp execOp
 simp only [ho,resolve,invoke,builtin,Sem.run_bind,Sem.run_pure,Result.andThen_ok,List.map_toArray,List.map_cons,List.map_nil,hs,hx,hrun]
 exact hK v' w' h2 h3
theorem wpL_appG {ops:Array Oper} {rest:List Oper} {o:Oper} {a:Act} {Q:Exit→Act→World→Prop} (hgd:o.guard=none) (s x:Operand)
 (ho:o.op= .call {callee:= .builtin .append,args:=#[s,x],argTypes:=#[t,t]})
 (ht:P.underlying t=some (.slice E)) (hi:P.info? E=some i) (hz:i.zero=some z) (hsize:i.size=size) (hby:i.bytes=bytes) (hzs:z.cells.size=size) (hsz:0<size)
 {v:Value} {n:Nat} {xs:List Value} (h:w.ownsRow B E size v n xs) (hs:a.eval s=v) (vals:List Value) (m c:Nat)
 (hx:a.eval x= .slice (some ⟨w.heap.size,0,none⟩) m c) (hm:vals.length=m*size) (h1:∀ u∈vals,u.oneCell'=true)
 (h63:n+m≤maxLen) (hbytes:(n+m)*bytes≤140737488355328) (hB:B≤w.heap.size)
 (hK:∀ v' w',w'.ownsRow B E size v' (n+m) (xs++vals)→Grew w w' v v'→wpList P ops Q rest (a.put o.dst v') w'):
 wpList P ops Q (o::rest) a (w.alloc (.cells vals.toArray E)):=
 wpList_plain hgd fun _ hK'=>wp_appG s x ho ht hi hz hsize hby hzs hsz h hs vals m c hx hm h1 h63 hbytes hB fun v' w' h2 h3=>hK' _ _ (hK v' w' h2 h3)
theorem step_appG {ops:Array Oper} {o:Oper} {a:Act} {K:Act→World→Prop} {Q:Exit→Act→World→Prop} {F:Prop} (hgd:o.guard=none) (s x:Operand)
 (ho:o.op= .call {callee:= .builtin .append,args:=#[s,x],argTypes:=#[t,t]})
 (ht:P.underlying t=some (.slice E)) (hi:P.info? E=some i) (hz:i.zero=some z) (hsize:i.size=size) (hby:i.bytes=bytes) (hzs:z.cells.size=size) (hsz:0<size)
 {v:Value} {n:Nat} {xs:List Value} (h:w.ownsRow B E size v n xs) (hs:a.eval s=v) (vals:List Value) (m c:Nat)
 (hx:a.eval x= .slice (some ⟨w.heap.size,0,none⟩) m c) (hm:vals.length=m*size) (h1:∀ u∈vals,u.oneCell'=true)
 (h63:n+m≤maxLen) (hbytes:(n+m)*bytes≤140737488355328) (hB:B≤w.heap.size)
 (hK:∀ v' w',w'.ownsRow B E size v' (n+m) (xs++vals)→Grew w w' v v'→K (a.put o.dst v') w'):
 if Region.wanted o (yielded ops a.tmps)=true then Oper.wp P o a (w.alloc (.cells vals.toArray E)) K Q else F:=by
 have hw:Region.wanted o (yielded ops a.tmps)=true:=by simp [Region.wanted,hgd]
 rw [if_pos hw]
 exact wp_appG s x ho ht hi hz hsize hby hzs hsz h hs vals m c hx hm h1 h63 hbytes hB hK
end
end Go.Proofs.Ytmkaghpnihlhcaa
