/- The maker of a tree in memory: nodes, children, where each word is. -/
import Derived.Test.YtmkaghpnihlhcaaTrF
import Derived.Test.YtmkaghpnihlhcaaTrG
import Derived.Test.YtmkaghpnihlhcaaTrD
import Derived.Test.YtmkaghpnihlhcaaApp
namespace Go.Proofs.Ytmkaghpnihlhcaa
open Go.RowKit
set_option linter.unusedVariables false
set_option linter.unusedSimpArgs false
theorem infoNode:(Try.prog.info? 33).map (fun i=>(i.zero,i.size,i.bytes))=some (some (.agg #[.int .u8 0,.int .i64 0,.int .i64 0,.slice none 0 0]),4,48):=by kernel_rfl
theorem infoEdge:(Try.prog.info? 53).map (fun i=>(i.zero,i.size,i.bytes))=some (some (.agg #[.int .i64 0,.int .u8 0]),2,16):=by kernel_rfl
def ndC (x:Nat×Nat×Nat):List Value:= [.int .u8 (x.1:Int),.int .i64 (x.2.1:Int),.int .i64 (x.2.2:Int),.slice none 0 0]
def nfl (D:List (Nat×Nat×Nat)):List Value:=D.flatMap ndC
theorem nfl_len (D:List (Nat×Nat×Nat)):(nfl D).length=D.length*4:=by
 unfold nfl
 induction D with
 |nil=>rfl
 |cons x l ih=>rw [List.flatMap_cons,List.length_append,ih,List.length_cons];show 4+_=_;omega
theorem nfl_app (l m:List (Nat×Nat×Nat)):nfl (l++m)=nfl l++nfl m:=List.flatMap_append
theorem nfl_get {D:List (Nat×Nat×Nat)} {k j:Nat} (hk:k<D.length) (hj:j<4):(nfl D)[k*4+j]? =(ndC D[k])[j]? :=by
 have e:D=D.take k++D[k]::D.drop (k+1):=by rw [←List.drop_eq_getElem_cons hk,List.take_append_drop]
 conv=>lhs;rw [e]
 have hc:nfl (D[k]::D.drop (k+1))=ndC D[k]++nfl (D.drop (k+1)):=List.flatMap_cons
 rw [nfl_app,hc,List.getElem?_append_right (by rw [nfl_len,List.length_take];omega),nfl_len,List.length_take,Nat.min_eq_left (by omega),Nat.add_sub_cancel_left,List.getElem?_append_left (by show j<4;exact hj)]
def atV (aw:List Nat):List Value:=aw.map fun(a:Nat)=> .int .i64 (a:Int)
structure Mk (b0 gm gk ga:Nat) (nv:Value) (D:List (Nat×Nat×Nat)) (nK:Nat) (F:Int→Int→Option Nat) (aw:List Nat) (wr:World):Prop where
 mb:Blk wr gm 36 #[nv,.map (some gk),.slice (some ⟨ga,0,none⟩) aw.length aw.length]
 ow:wr.ownsRow b0 33 4 nv D.length (nfl D)
 em:EdgeM wr gk nK F
 ba:Blk wr ga 3 (atV aw).toArray
 nm:gm≠gk∧ga≠gk∧ga≠gm
 nn:nv.ownBlock≠some gm∧nv.ownBlock≠some gk∧nv.ownBlock≠some ga
 lo:b0≤gm∧b0≤gk∧b0≤ga
section
variable {b0 gm gk ga nK:Nat} {nv nv':Value} {D:List (Nat×Nat×Nat)} {F:Int→Int→Option Nat} {aw:List Nat} {w wr wr':World}
theorem Mk.step (h:Mk b0 gm gk ga nv D nK F aw wr) (hb:Below wr.heap.size wr wr'):Mk b0 gm gk ga nv D nK F aw wr':=
 ⟨Blk.below h.mb hb (Blk.lt h.mb),World.ownsRow.kept (row:=none) h.ow ⟨hb.os,hb.tape,hb.output,hb.size,fun k hk _=>hb.block k hk⟩ (by
  rcases h.ow.2 with⟨e,_⟩|⟨g,cap,cur,e,_⟩
  · rw [e];exact .inl rfl
  · rw [e];exact .inr (by simp [Value.ownBlock])),h.em.kept hb,Blk.below h.ba hb (Blk.lt h.ba),h.nm,h.nn,h.lo⟩
theorem Mk.drew (h:Mk b0 gm gk ga nv D nK F aw wr):Mk b0 gm gk ga nv D nK F aw wr.drew:=h.step (below_drewN (Below.refl _ _) 1)
theorem Mk.put (h:Mk b0 gm gk ga nv D nK F aw wr) {F':Int→Int→Option Nat} {n':Nat} (he:EdgeM wr' gk n' F') (hg:wr.grownBy wr' (some gk)):Mk b0 gm gk ga nv D n' F' aw wr':=by
 obtain⟨h1,h2,h3⟩:=h.nm
 obtain⟨k1,k2,k3⟩:=h.nn
 exact⟨h.mb.grown hg (by intro e;injection e with e;exact h1 e),World.ownsRow.kept h.ow hg (.inr k2),he,h.ba.grown hg (by intro e;injection e with e;exact h2 e),h.nm,h.nn,h.lo⟩
theorem Mk.form (h:Mk b0 gm gk ga nv D nK F aw wr) (hD:0<D.length):∃ g c,nv= .slice (some ⟨g,0,none⟩) D.length c∧b0≤g∧g<wr.heap.size:=by
 rcases h.ow.2 with⟨_,h0⟩|⟨g,cap,cur,e,hb,hg,_⟩
 · omega
 · exact⟨g,cap,e,hb,(Array.getElem?_eq_some_iff.1 hg).1⟩
theorem Mk.fl (h:Mk b0 gm gk ga nv D nK F aw wr) {ad:Addr} {c i:Nat} (hv:nv= .slice (some ad) D.length c) (hi:i<D.length):wr.cell? ⟨(ad.add (i*4)).block,(ad.add (i*4)).off+2,none⟩=some (.int .i64 (D[i].2.2:Int)):=by
 obtain⟨g,c',e,_,_⟩:=h.form (by omega)
 rw [hv] at e
 injection e with e1 e2 e3
 injection e1 with e1
 subst e1
 have h1:=World.ownsRow.cells h.ow (g:=g) (by rw [hv];rfl) (i*4+2) _ (nfl_get hi (by omega))
 have e4:(⟨g,0,none⟩:Addr).add (i*4+2)=⟨((⟨g,0,none⟩:Addr).add (i*4)).block,((⟨g,0,none⟩:Addr).add (i*4)).off+2,none⟩:=by
  rw [←add_of_add]
  generalize (⟨g,0,none⟩:Addr).add (i*4)=p
  unfold Addr.add;rw [if_neg (by omega)]
 rw [←e4];exact h1
theorem Mk.atw (h:Mk b0 gm gk ga nv D nK F aw wr) {i:Nat} (hi:i<aw.length):wr.cell? ((⟨ga,0,none⟩:Addr).add i)=some (.int .i64 (aw[i]:Int))∧wr.cell? ⟨ga,i,none⟩=some (.int .i64 (aw[i]:Int))∧wr.frozen? ⟨ga,i,none⟩=false∧wr.frozen? ((⟨ga,0,none⟩:Addr).add i)=false:=by
 have e1:(⟨ga,0,none⟩:Addr).add i=⟨ga,i,none⟩:=by
  by_cases h:i=0
  · subst h;rfl
  · simp [Addr.add,h]
 have h1:wr.cell? ⟨ga,i,none⟩=some (.int .i64 (aw[i]:Int)):=by
  rw [h.ba.cell i]
  unfold atV
  simp [List.getElem?_eq_getElem hi]
 rw [e1]
 exact⟨h1,h1,h.ba.frozen i,h.ba.frozen i⟩
theorem atV_set (aw:List Nat) (i a:Nat):(atV aw).toArray.setIfInBounds i (.int .i64 (a:Int))=(atV (aw.set i a)).toArray:=by
 unfold atV
 rw [List.map_set]
 simp
theorem Mk.setAt (h:Mk b0 gm gk ga nv D nK F aw wr) (i a:Nat):Mk b0 gm gk ga nv D nK F (aw.set i a) (wr.setCell ⟨ga,i,none⟩ (.int .i64 (a:Int))):=by
 obtain⟨h1,h2,h3⟩:=h.nm
 obtain⟨k1,k2,k3⟩:=h.nn
 refine⟨?_,World.ownsRow.kept (row:=some ga) h.ow ⟨rfl,rfl,rfl,by simp [World.setCell],fun k hk hk2=>Below.heap_setCell wr ⟨ga,i,none⟩ _ k (fun e=>hk2 (by rw [e]))⟩ (.inr k3),h.em.setCell (by dsimp only;omega) _,?_,h.nm,h.nn,h.lo⟩
 · rw [List.length_set];exact Blk.far h.mb (by dsimp only;omega) _
 · rw [←atV_set];exact h.ba.set_ i _
theorem Mk.app (h:Mk b0 gm gk ga nv D nK F aw wr) {x:Nat×Nat×Nat} (ho:wr'.ownsRow b0 33 4 nv' (D.length+1) (nfl D++ndC x)) (hg:Grew wr wr' nv nv'):Mk b0 gm gk ga nv' (D++ [x]) nK F aw (wr'.setCell ⟨gm,0,none⟩ nv'):=by
 obtain⟨h1,h2,h3⟩:=h.nm
 obtain⟨k1,k2,k3⟩:=h.nn
 have gmlt:=Blk.lt h.mb
 have gklt:=h.em.lt
 have galt:=Blk.lt h.ba
 have m1:nv'.ownBlock≠some gm:=hg.off gmlt k1
 have m2:nv'.ownBlock≠some gk:=hg.off gklt k2
 have m3:nv'.ownBlock≠some ga:=hg.off galt k3
 have e:nfl (D++ [x])=nfl D++ndC x:=by rw [nfl_app];unfold nfl;simp
 refine⟨?_,?_,?_,?_,h.nm,⟨m1,m2,m3⟩,h.lo⟩
 · exact(hg.blk h.mb k1).set_ 0 nv'
 · rw [e,List.length_append,List.length_singleton]
   exact World.ownsRow.kept (row:=some gm) ho ⟨rfl,rfl,rfl,by simp [World.setCell],fun k hk hk2=>Below.heap_setCell wr' ⟨gm,0,none⟩ nv' k (fun e=>hk2 (by rw [e]))⟩ (.inr m1)
 · exact(h.em.grown hg.grown (fun e=>k2 e.symm)).setCell (by dsimp only;omega) _
 · exact Blk.far (hg.blk h.ba k3) (by dsimp only;omega) _
end
theorem wpL_ed {w:World} {B:Nat} {v:Value} {l:List (Nat×Nat)} {ops:Array Oper} {rest:List Oper} {o:Oper} {a:Act} {Q:Exit→Act→World→Prop} (hgd:o.guard=none) (s x:Operand)
 (ho:o.op= .call {callee:= .builtin .append,args:=#[s,x],argTypes:=#[51,51]})
 (h:w.ownsRow B 53 2 v l.length (edF l)) (hs:a.eval s=v) (y:Nat×Nat) (hx:a.eval x= .slice (some ⟨w.heap.size,0,none⟩) 1 1) (hlen:l.length≤1000000) (hB:B≤w.heap.size) (n:Nat) (hn:l.length=n)
 (hK:∀ A c w',w'.ownsRow B 53 2 (.slice A (n+1) c) (n+1) (edF (l++ [y]))→Grew w w' v (.slice A (n+1) c)→wpList Try.prog ops Q rest (a.put o.dst (.slice A (n+1) c)) w'):
 wpList Try.prog ops Q (o::rest) a (w.alloc (.cells #[.int .i64 (y.1:Int),.int .u8 (y.2:Int)] 53)):=by
 subst hn
 obtain⟨i0,hi0,hz0,hz1,hz2⟩:=info_parts infoEdge
 refine wpL_appG (P:=Try.prog) (Q:=Q) (rest:=rest) (ops:=ops) hgd s x ho Try.underlying51 hi0 hz0 hz1 hz2 rfl (by decide) h hs [.int .i64 (y.1:Int),.int .u8 (y.2:Int)] 1 1 hx rfl (by
  intro u hu
  simp only [List.mem_cons,List.not_mem_nil,or_false] at hu
  rcases hu with rfl|rfl<;>rfl) (by unfold maxLen;omega) (by omega) hB fun v' w' h4 h5=> ?_
 have e:edF l++ [.int .i64 (y.1:Int),.int .u8 (y.2:Int)]=edF (l++ [y]):=by rw [edF_app];unfold edF;simp [edC]
 rw [e] at h4
 rcases h4.2 with⟨_,h0⟩|⟨g,cap,cur,e1,_⟩
 · omega
 · subst e1
   exact hK _ _ w' h4 h5
theorem step_nd {w:World} {B:Nat} {v:Value} {D:List (Nat×Nat×Nat)} {ops:Array Oper} {o:Oper} {a:Act} {K:Act→World→Prop} {Q:Exit→Act→World→Prop} {E:Prop} (hgd:o.guard=none) (p q:Operand)
 (hop:o.op= .call {callee:= .builtin .append,args:=#[p,q],argTypes:=#[23,23]})
 (h:w.ownsRow B 33 4 v D.length (nfl D)) (hs:a.eval p=v) (x:Nat×Nat×Nat)
 (hq:a.eval q= .slice (some ⟨w.heap.size,0,none⟩) 1 1) (hlen:D.length≤1000000) (hB:B≤w.heap.size) (n:Nat) (hn:D.length=n)
 (hK:∀ A c w',w'.ownsRow B 33 4 (.slice A (n+1) c) (n+1) (nfl D++ndC x)→Grew w w' v (.slice A (n+1) c)→K (a.put o.dst (.slice A (n+1) c)) w'):
 if Region.wanted o (yielded ops a.tmps)=true then Oper.wp Try.prog o a (w.alloc (.cells #[.int .u8 (x.1:Int),.int .i64 (x.2.1:Int),.int .i64 (x.2.2:Int),.slice none 0 0] 33)) K Q else E:=by
 subst hn
 obtain⟨i0,hi0,hz0,hz1,hz2⟩:=info_parts infoNode
 refine step_appG (P:=Try.prog) (Q:=Q) (ops:=ops) hgd p q hop Try.underlying23 hi0 hz0 hz1 hz2 rfl (by decide) h hs [.int .u8 (x.1:Int),.int .i64 (x.2.1:Int),.int .i64 (x.2.2:Int),.slice none 0 0] 1 1 hq rfl (by
  intro u hu
  simp only [List.mem_cons,List.not_mem_nil,or_false] at hu
  rcases hu with rfl|rfl|rfl|rfl<;>rfl) (by unfold maxLen;omega) (by omega) hB fun v' w' h4 h5=> ?_
 rcases h4.2 with⟨_,h0⟩|⟨g,cap,cur,e1,_⟩
 · omega
 · subst e1
   exact hK _ _ w' h4 h5
end Go.Proofs.Ytmkaghpnihlhcaa
