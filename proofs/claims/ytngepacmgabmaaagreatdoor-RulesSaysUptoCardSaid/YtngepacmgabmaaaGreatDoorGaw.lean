/- The reference's tree of phrases: texts i; The reference's nodes in memory; plain:  .. -/
import Derived.Test.YtngepacmgabmaaaGreatDoorGav
namespace Go.Proofs.YtngepacmgabmaaaGreatDoor
open Go.RowKit
set_option linter.unusedVariables false
set_option linter.unusedSimpArgs false
theorem ju5 {s t:ByteArray} (h:t.size<=s.size):(s.extract (s.size-t.size) s.size).data.toList=t.data.toList<->t.data.toList.isSuffixOf s.data.toList=true:=by
 rw [List.isSuffixOf_iff_suffix,Yz8,jS5 s (Nat.le_refl _),List.suffix_iff_eq_drop,qX6,qX6];exact eq_comm
theorem X46 {s t:ByteArray} (h:s.size<t.size):t.data.toList.isSuffixOf s.data.toList=false:=by
 rw [Bool.eq_false_iff];intro hs;have:=(List.isSuffixOf_iff_suffix.1 hs).length_le;rw [qX6,qX6] at this;omega
set_option maxHeartbeats 400000 in
theorem za7 (s t:ByteArray) (w:World) (hs:s.size<=140737488355328) (ht:t.size<=140737488355328):
 Calls Tryz.prog 122 #[.string s,.string t] w λ e w'=>e= .returned (.bool (t.data.toList.isSuffixOf s.data.toList))/\w=w':=by
 by_cases c:t.size<=s.size
 focus
  obtain⟨R,hR⟩:∃ R,R=t.data.toList.isSuffixOf s.data.toList:=⟨_,rfl⟩
  have hX:((s.extract (s.size-t.size) s.size).toList==t.toList)=R:=by
   rw [hR,Bool.eq_iff_iff,beq_iff_eq,Lib.toList_data,Lib.toList_data];exact ju5 c
  have d1:decide ((t.size:Int)<=(s.size:Int))=true:=decide_eq_true (by omega);have d2:(t.size:Int)<=(s.size:Int):=by omega
  have d3:(0:Int)<=(s.size:Int)-(t.size:Int):=by omega
  have d4:(s.size:Int)-(t.size:Int)<=(s.size:Int):=by omega
  have d5:IntKind.i64.wrap ((s.size:Int)-(t.size:Int))=(s.size:Int)-(t.size:Int):=IntWalk.i64_in _ (by omega);have d6:((s.size:Int)-(t.size:Int)).toNat=s.size-t.size:=by omega
  rw [<-hR];clear hR
 rotate_left
 focus
  rw [X46 (by omega)];have d1:decide ((t.size:Int)<=(s.size:Int))=false:=decide_eq_false (by omega);have d2:¬(t.size:Int)<=(s.size:Int):=by omega
 all_goals
  go_enter Tryz.func122,Tryz.ntmps122;go_wp2_with fail;go_ret;exact⟨rfl,rfl⟩
theorem QM1 (l t:List UInt8):atB l 0 t=t.isPrefixOf l:=by
 unfold atB Lib.occAt;simp
def OT (w:World) (B:Nat) (v:Value) (T:List (List UInt8)):Prop:=OS w B v (T.map str)
section
variable {w w':World} {B:Nat} {v:Value} {T:List (List UInt8)}
theorem OT.nil (w:World) (B:Nat):OT w B (.slice none 0 0) []:=OS.nil w B
theorem OT.kept (h:OT w B v T) (hb:Below w.heap.size w w'):OT w' B v T:=OS.kept h hb
theorem OT.low (h:OT w B v T) {H:Nat} (hv:∀ x,v.ownBlock=some x->x<H) (hb:Below H w w'):OT w' B v T:=by
 rcases h.2 with e|⟨x,cap,cur,e,hx,hw,r⟩
 . exact⟨h.1,.inl e⟩
 . exact⟨h.1,.inr ⟨x,cap,cur,e,hx,(hb.block x (hv x (by rw [e];rfl))).trans hw,r⟩⟩
theorem OT.lt (h:OT w B v T):∀ x,v.ownBlock=some x->x<w.heap.size:=λ x hx=>(World.ownsRow.lt h x hx).2
theorem OT.form (h:OT w B v T):∃ A c,v= .slice A T.length c:=by
 obtain⟨A,c,e⟩:=OS.form h;rw [List.length_map] at e;exact⟨A,c,e⟩
theorem OT.at_ {A:Option Addr} {c:Nat} (h:OT w B (.slice A T.length c) T) {k:Nat} (hk:k<T.length):∃ g,A=some ⟨g,0,none⟩/\w.cell? ⟨g,k,none⟩=some (.string (str (T.getD k [])))/\w.cell? ((⟨g,0,none⟩:Addr).add k)=some (.string (str (T.getD k []))):=by
 have hl:(T.map str).length=T.length:=List.length_map _;unfold OT at h;rw [<-hl] at h;obtain⟨g,e,_,_,_,hc⟩:=h.at_ (by omega);have h1:=hc k (by omega);rw [List.getElem_map,<-gD [] hk] at h1
 have e1:(⟨g,0,none⟩:Addr).add k=⟨g,k,none⟩:=by
  by_cases h:k=0
  . subst h;rfl
  . simp [Addr.add,h]
 exact⟨g,e,h1,by rw [e1];exact h1⟩
theorem YX9 {ops:Array Oper} {rest:List Oper} {o:Oper} {a:Act} {Q:Exit->Act->World->Prop} (hgd:o.guard=none) (s x:Operand)
 (ho:o.op= .call {callee:= .builtin .append,args:=#[s,x],argTypes:=#[37,37]})
 (h:OT w B v T) (hs:a.eval s=v) (t:List UInt8)
 (hx:a.eval x= .slice (some ⟨w.heap.size,0,none⟩) 1 1) (hlen:T.length<=1000000000000) (hB:B<=w.heap.size)
 (hK:∀ A c w',OT w' B (.slice A (T.length+1) c) (T++ [t])->Below B w w'->wpList Tryz.prog ops Q rest (a.put o.dst (.slice A (T.length+1) c)) w'):
 wpList Tryz.prog ops Q (o::rest) a (w.alloc (.cells #[.string (str t)] 9)):=by
 refine jN8 hgd s x ho h hs (str t) hx (by rw [List.length_map];exact hlen) hB λ v' w' h1 h2 h3=> ?_
 have e:T.map str++ [str t]=(T++ [t]).map str:=by rw [List.map_append];rfl
 rw [e] at h1;obtain⟨A,c,rfl⟩:=OT.form h1;rw [List.length_append,List.length_singleton] at*;exact hK A c w' h1 h3
theorem ju2 {ops:Array Oper} {rest:List Oper} {o:Oper} {a:Act} {Q:Exit->Act->World->Prop} {B2:Nat} {u:Value} {M:List (List UInt8)} (hgd:o.guard=none) (s x:Operand)
 (ho:o.op= .call {callee:= .builtin .append,args:=#[s,x],argTypes:=#[37,37]})
 (h:OT w B v T) (hs:a.eval s=v) (h2:OT w B2 u M) (hx:a.eval x=u) (hlen:T.length+M.length<=1000000000) (hB:B<=w.heap.size)
 (hK:∀ A c w',OT w' B (.slice A (T.length+M.length) c) (T++M)->Below B w w'->wpList Tryz.prog ops Q rest (a.put o.dst (.slice A (T.length+M.length) c)) w'):
 wpList Tryz.prog ops Q (o::rest) a w:=by
 obtain⟨i0,hi0,hz0,hz1,hz2⟩:=info_parts KY7;obtain⟨A,c,rfl⟩:=h2.form;have hr:=OS.reads (A:=A) (c:=c) (l:=M.map str) (by unfold OT at h2;rw [List.length_map];exact h2);rw [List.length_map] at hr
 refine Yk6 w hgd s x 37 ho B 9 i0 _ 1 16 Tryz.underlying37 hi0 hz0 hz1 hz2 rfl (by decide) v _ _ hs h w.heap.size A M.length c _ hx hr (by
  intro u hu;obtain⟨y,_,rfl⟩:=List.mem_map.1 hu;rfl) (by rw [List.length_map];unfold maxLen;omega) (by rw [List.length_map];omega) hB λ v' w' h3 h4 h5=> ?_
 have h6:OT w' B v' (T++M):=by
  unfold OT OS;have e:(M.map str).length=M.length:=List.length_map _;rw [List.map_append,List.length_append,List.map_append,e];exact h3
 obtain⟨A',c',rfl⟩:=h6.form;rw [List.length_append] at*;exact hK A' c' w' h6 ((Below.refl _ _).grown h4 hB (Kw5 h))
end
def lvP (L:List (List UInt8)) (n:Nat) (T:List (List UInt8)) (up:Nat):List (List UInt8):=lv L n (T.take up)
theorem Ym6 (L:List (List UInt8)) (n:Nat) (T:List (List UInt8)):lvP L n T T.length=lv L n T:=by unfold lvP;rw [List.take_length]
theorem Yk3 {L:List (List UInt8)} {n:Nat} {T:List (List UInt8)} {up:Nat} (h:up<T.length):lvP L n T (up+1)=lvP L n T up++if (T.getD up []).length=n then lvU L (T.getD up []) else []:=by
 unfold lvP lv;rw [List.take_succ_eq_append_getElem h,List.flatMap_append,gD _ h];congr 1;exact List.flatMap_singleton _ _
def nxP (L:List (List UInt8)) (u:List UInt8) (b:Nat):List (List UInt8):=((List.range b).filter λ b=>yI4 L (u++ [bt b])).map λ b=>u++ [bt b]
theorem zL0 (L:List (List UInt8)) (u:List UInt8):nxP L u 0= []:=rfl
theorem Ki5 (L:List (List UInt8)) (u:List UInt8):nxP L u 256=lvU L u:=by unfold nxP lvU nxB;with_reducible rfl
theorem Yd9 {L:List (List UInt8)} {u:List UInt8} {b:Nat} (h:yI4 L (u++ [bt b])=true):nxP L u (b+1)=nxP L u b++ [u++ [bt b]]:=by
 unfold nxP;rw [List.range_succ,List.filter_append,List.map_append];congr 1;rw [List.filter_cons,if_pos h];rfl
theorem Kf3 {L:List (List UInt8)} {u:List UInt8} {b:Nat} (h:yI4 L (u++ [bt b])=false):nxP L u (b+1)=nxP L u b:=by
 unfold nxP;rw [List.range_succ,List.filter_append,List.filter_cons,if_neg (by rw [h];decide)];rw [List.filter_nil,List.append_nil]
theorem yv5 (L:List (List UInt8)) (u:List UInt8) (b:Nat):(nxP L u b).length<=b:=by
 unfold nxP;rw [List.length_map];exact Nat.le_trans (List.length_filter_le _ _) (by rw [List.length_range];exact Nat.le_refl _)
theorem Ye8 (L:List (List UInt8)) (u:List UInt8):(lvU L u).length<=256:=by rw [<-Ki5];exact yv5 L u 256
theorem jE2 (L:List (List UInt8)) (n:Nat) (T:List (List UInt8)) (up:Nat) (h:up<=T.length):(lvP L n T up).length<=up*256:=by
 induction up with
 |zero=>exact Nat.le_refl _
 |succ up ih=>
  have h1:=ih (Nat.le_of_succ_le h)
  have h2:(if (T.getD up []).length=n then lvU L (T.getD up []) else []).length<=256:=by
   split
   . exact Ye8 L _
   . exact Nat.zero_le _
  rw [Yk3 h,List.length_append,Nat.succ_mul];exact Nat.add_le_add h1 h2
theorem jQ0 {L:List (List UInt8)} {t w:List UInt8} (hw:w∈L) (h:t.isPrefixOf w=true):yI4 L t=true:=List.any_eq_true.2 ⟨w,hw,h⟩
theorem Xm5 {L:List (List UInt8)} {t:List UInt8} (h:∀ w∈L,t.isPrefixOf w=false):yI4 L t=false:=by
 unfold yI4;rw [List.any_eq_false];intro w hw;rw [h w hw];decide
def ncC (x:Nat×Nat×Nat×Value):List Value:= [.int .u8 (x.1:Int),.int .i64 (x.2.1:Int),.int .i64 (x.2.2.1:Int),x.2.2.2]
def ncF (l:List (Nat×Nat×Nat×Value)):List Value:=l.flatMap ncC
theorem QA0 (l:List (Nat×Nat×Nat×Value)):(ncF l).length=l.length*4:=by
 unfold ncF
 induction l with
 |nil=>rfl
 |cons x l ih=>rw [List.flatMap_cons,List.length_append,ih,List.length_cons];show 4+_=_;omega
theorem K81 (l m:List (Nat×Nat×Nat×Value)):ncF (l++m)=ncF l++ncF m:=List.flatMap_append
theorem Jc6 {D:List (Nat×Nat×Nat×Value)} {k j:Nat} (hk:k<D.length) (hj:j<4):(ncF D)[k*4+j]? =(ncC D[k])[j]? :=by
 have e:D=D.take k++D[k]::D.drop (k+1):=by rw [<-List.drop_eq_getElem_cons hk,List.take_append_drop]
 conv=>lhs;rw [e]
 have hc:ncF (D[k]::D.drop (k+1))=ncC D[k]++ncF (D.drop (k+1)):=List.flatMap_cons;rw [K81,hc,List.getElem?_append_right (by rw [QA0,List.length_take];omega),QA0,List.length_take,Nat.min_eq_left (by omega),Nat.add_sub_cancel_left,List.getElem?_append_left (by show j<4;exact hj)]
structure Ot (b0 H:Nat) (v:Value) (l:List (Nat×Nat×Nat×Value)) (EN:Nat->List Nat) (wr:World):Prop where
 ow:wr.ownsRow b0 165 4 v l.length (ncF l)
 vo:∀ x,v.ownBlock=some x->x<H
 en:∀ k (hk:k<l.length),OwI wr b0 l[k].2.2.2 (EN k)/\∀ x,l[k].2.2.2.ownBlock=some x->x<H/\v.ownBlock≠some x
 hi:H<=wr.heap.size
 lo:b0<=H
theorem xy1 {w w':World} {B sz n H:Nat} {E:TypeId} {v:Value} {xs:List Value} (h:w.ownsRow B E sz v n xs) (hv:∀ x,v.ownBlock=some x->x<H) (hb:Below H w w'):w'.ownsRow B E sz v n xs:=by
 rcases h.2 with e|⟨x,cap,cur,e,hx,hw,r⟩
 . exact⟨h.1,.inl e⟩
 . exact⟨h.1,.inr ⟨x,cap,cur,e,hx,(hb.block x (hv x (by rw [e];rfl))).trans hw,r⟩⟩
section
variable {b0 H:Nat} {v:Value} {l:List (Nat×Nat×Nat×Value)} {EN:Nat->List Nat} {w wr wr':World}
theorem Ot.nil (b0:Nat) (EN:Nat->List Nat) (wr:World) (h:b0<=wr.heap.size):Ot b0 wr.heap.size (.slice none 0 0) [] EN wr:=⟨World.ownsRow_nil _ _ _ _,λ x hx=>(by cases hx),λ k hk=>absurd hk (Nat.not_lt_zero _),Nat.le_refl _,h⟩
theorem Ot.step (h:Ot b0 H v l EN wr) (hb:Below H wr wr'):Ot b0 H v l EN wr':=
 ⟨xy1 h.ow h.vo hb,h.vo,λ k hk=>⟨xy1 (h.en k hk).1 (λ x hx=>((h.en k hk).2 x hx).1) hb,(h.en k hk).2⟩,Nat.le_trans h.hi hb.size,h.lo⟩
theorem Ot.up (h:Ot b0 H v l EN wr) {H':Nat} (h1:H<=H') (h2:H'<=wr.heap.size):Ot b0 H' v l EN wr:=
 ⟨h.ow,λ x hx=>Nat.lt_of_lt_of_le (h.vo x hx) h1,λ k hk=>⟨(h.en k hk).1,λ x hx=>⟨Nat.lt_of_lt_of_le ((h.en k hk).2 x hx).1 h1,((h.en k hk).2 x hx).2⟩⟩,h2,Nat.le_trans h.lo h1⟩
theorem YY7 {ops:Array Oper} {rest:List Oper} {o:Oper} {a:Act} {Q:Exit->Act->World->Prop} (hgd:o.guard=none) (s x:Operand)
 (ho:o.op= .call {callee:= .builtin .append,args:=#[s,x],argTypes:=#[132,132]})
 (h:Ot b0 H v l EN w) (hs:a.eval s=v) (b u f:Nat) (E:Value) (xs:List Nat) (hE:OwI w H E xs) (hEN:EN l.length=xs)
 (hx:a.eval x= .slice (some ⟨w.heap.size,0,none⟩) 1 1) (hlen:l.length<=1000000)
 (hK:∀ A c w',Ot b0 w'.heap.size (.slice A (l.length+1) c) (l++ [(b,u,f,E)]) EN w'->Below b0 w w'->wpList Tryz.prog ops Q rest (a.put o.dst (.slice A (l.length+1) c)) w'):
 wpList Tryz.prog ops Q (o::rest) a (w.alloc (.cells #[.int .u8 (b:Int),.int .i64 (u:Int),.int .i64 (f:Int),E] 165)):=by
 obtain⟨i0,hi0,hz0,hz1,hz2⟩:=info_parts x49;have hB:b0<=w.heap.size:=Nat.le_trans h.lo h.hi
 refine zM8 (P:=Tryz.prog) (Q:=Q) (rest:=rest) (ops:=ops) hgd s x ho Tryz.underlying132 hi0 hz0 hz1 hz2 rfl (by decide) h.ow hs [.int .u8 (b:Int),.int .i64 (u:Int),.int .i64 (f:Int),E] 1 1 hx rfl (by
  intro y hy;simp only [List.mem_cons,List.not_mem_nil,or_false] at hy;obtain⟨A,c,e⟩:=hE.form;rcases hy with rfl|rfl|rfl|rfl
  . rfl
  . rfl
  . rfl
  . rw [e];rfl) (by unfold maxLen;omega) (by omega) hB λ v' w' h4 h5=> ?_
 have hb:=h5.below hB λ g e=>Kw5 h.ow g e
 have e2:ncF l++ [.int .u8 (b:Int),.int .i64 (u:Int),.int .i64 (f:Int),E]=ncF (l++ [(b,u,f,E)]):=by rw [K81];unfold ncF;simp [ncC]
 rw [e2] at h4;have hEl:=World.ownsRow.lt hE
 have keepE:∀ {V:Value} {m:List Nat},OwI w b0 V m->(∀ x,V.ownBlock=some x->v.ownBlock≠some x)->OwI w' b0 V m:=λ {V m} ho hne=>by
  rcases ho.2 with e|⟨q,cap,cur,e,hq,hw,r⟩
  . exact⟨ho.1,.inl e⟩
  . have hql:q<w.heap.size:=(Array.getElem?_eq_some_iff.1 hw).1;exact⟨ho.1,.inr ⟨q,cap,cur,e,hq,(h5.grown.block q hql (λ e2=>hne q (by rw [e];rfl) e2.symm)).trans hw,r⟩⟩
 have offE:∀ x,x<w.heap.size->v.ownBlock≠some x->v'.ownBlock≠some x:=λ x h1 h2=>h5.off h1 h2
 have hOt:Ot b0 w'.heap.size v' (l++ [(b,u,f,E)]) EN w':=by
  refine⟨by rw [List.length_append,List.length_singleton];exact h4,λ x hx=>(World.ownsRow.lt h4 x hx).2,λ k hk=> ?_,Nat.le_refl _,Nat.le_trans hB hb.size⟩;by_cases hkl:k<l.length
  . rw [List.getElem_append_left hkl];obtain⟨o1,o2⟩:=h.en k hkl;refine⟨keepE o1 λ x hx=>(o2 x hx).2,λ x hx=> ?_⟩;have h6:=(World.ownsRow.lt o1 x hx).2;exact⟨Nat.lt_of_lt_of_le h6 hb.size,offE x h6 (o2 x hx).2⟩
  . have hk2:k=l.length:=(by rw [List.length_append,List.length_singleton] at hk;omega);subst hk2;rw [List.getElem_append_right (Nat.le_refl _)];simp only [Nat.sub_self,List.getElem_cons_zero]
    have hne:∀ x,E.ownBlock=some x->v.ownBlock≠some x:=λ x hx e=>by
     have h7:=(hEl x hx).1;have h8:=h.vo x e;omega
    refine⟨?_,λ x hx=>⟨Nat.lt_of_lt_of_le (hEl x hx).2 hb.size,offE x (hEl x hx).2 (hne x hx)⟩⟩;rw [hEN];exact keepE (hE.more h.lo) hne
 rcases h4.2 with⟨_,h0⟩|⟨g,cap,cur,e1,_⟩
 . omega
 . subst e1;exact hK _ _ w' hOt hb
theorem Ot.tree {A:Option Addr} {c:Nat} {D:List (Nat×Nat×Nat)} (h:Ot b0 H (.slice A l.length c) l EN wr) (hD:D.length=l.length) (hn:∀ k (hk:k<l.length),(l[k].1,l[k].2.1,l[k].2.2.1)=D.getD k (0,0,0)):TreeM wr wr.heap.size A D EN:=λ k hk=>by
 rcases h.ow.2 with⟨_,h0⟩|⟨g,cap,cur,e1,_,hg,_⟩
 . omega
 . injection e1 with e1 _ _;subst e1;have hgl:g<wr.heap.size:=(Array.getElem?_eq_some_iff.1 hg).1;have hkl:k<l.length:=by omega
   have key:∀ j,j<4->wr.cell? ⟨g,k*4+j,none⟩=(ncC l[k])[j]? :=λ j hj=>by
    have h1:=Jc6 hkl hj;have hj2:j<(ncC l[k]).length:=hj;rw [List.getElem?_eq_getElem hj2] at h1⊢;have h2:=World.ownsRow.cells h.ow (g:=g) rfl (k*4+j) _ h1
    have e1:(⟨g,0,none⟩:Addr).add (k*4+j)=⟨g,k*4+j,none⟩:=by
     by_cases h:k*4+j=0
     . rw [h];rfl
     . unfold Addr.add;rw [if_neg h];simp
    rw [e1] at h2;exact h2
   have hn1:=hn k hkl;rw [<-hn1];obtain⟨o1,_⟩:=h.en k hkl;obtain⟨E,ce,e⟩:=o1.form;refine⟨g,rfl,hgl,key 0 (by omega),key 1 (by omega),key 2 (by omega),E,ce,?_,?_⟩
   . rw [key 3 (by omega),<-e];rfl
   . unfold OwI at o1;rw [e] at o1;exact Reads.of_own o1
end
def enP (L:List (List UInt8)) (t:List UInt8) (k:Nat):List Nat:=(List.range k).filter λ q=>(L.getD q []).isSuffixOf t
theorem jZ0 (L:List (List UInt8)) (t:List UInt8):enP L t L.length=enI L t:=rfl
theorem Ze5 {L:List (List UInt8)} {t:List UInt8} {k:Nat} (h:(L.getD k []).isSuffixOf t=true):enP L t (k+1)=enP L t k++ [k]:=by
 unfold enP;rw [List.range_succ,List.filter_append];congr 1;rw [List.filter_cons,if_pos h];rfl
theorem zK9 {L:List (List UInt8)} {t:List UInt8} {k:Nat} (h:(L.getD k []).isSuffixOf t=false):enP L t (k+1)=enP L t k:=by
 unfold enP;rw [List.range_succ,List.filter_append,List.filter_cons,if_neg (by rw [h];decide),List.filter_nil,List.append_nil]
theorem qt5 (L:List (List UInt8)) (t:List UInt8) (k:Nat):(enP L t k).length<=k:=Nat.le_trans (List.length_filter_le _ _) (by rw [List.length_range];exact Nat.le_refl _)
theorem qU9 {T:List (List UInt8)} {t:List UInt8} {k:Nat} (h1:(T.getD k []).length<t.length) (h2:(T.getD k []).isSuffixOf t=true):flN T t (k+1)=k:=by
 rw [flN,if_pos ⟨h1,h2⟩]
theorem x96 {T:List (List UInt8)} {t:List UInt8} {k:Nat} (h:¬((T.getD k []).length<t.length/\(T.getD k []).isSuffixOf t=true)):flN T t (k+1)=flN T t k:=by
 rw [flN];exact if_neg h
theorem Q78 {T:List (List UInt8)} (h:Gd T):ndI T (T.getD 0 [])=(0,0,0):=by
 rw [h.he];unfold ndI;rw [yl4]
 have e:upI T []=0:=by
  unfold upI;show ix T []=0;rw [<-h.he];exact kt5 h.nd h.po
 rw [e];rfl
theorem Jk7 {T:List (List UInt8)} {t:List UInt8} (hn:T.Nodup) (h:t∈T):Lib.idxOfS (T.map str) (str t)=(ix T t:Int):=by
 have h1:=KP1 h;have hl:(T.map str).length=T.length:=List.length_map _
 have hg:∀ j,j<T.length->(T.map str).getD j ByteArray.empty=str (T.getD j []):=λ j hj=>by
  rw [gD _ (by rw [hl];exact hj),List.getElem_map,gD _ hj]
 have h2:=Lib.idxOfS_hit (T.map str) T.length (ix T t) (str t) h1 (by rw [hl];exact Nat.le_refl _) (by rw [hg _ h1,JA8 h]) (λ j hj e=>by
  have hjl:j<T.length:=by omega
  rw [hg j hjl] at e
  have e2:T.getD j []=t:=by
   have:=congrArg lst e;rw [Yh4,Yh4] at this;exact this
  have h3:=q75 hn hjl h1 (by rw [e2,JA8 h]);omega)
 rw [List.take_of_length_le (by rw [hl];exact Nat.le_refl _)] at h2;exact h2
theorem XX0 {t:List UInt8} (h:0<t.length):byI t=((str t)[(str t).size-1]'(by rw [Xp5];omega)).toNat:=by
 have e:t.getLast? =some (t[t.length-1]'(by omega)):=by
  rw [List.getLast?_eq_getElem?,List.getElem?_eq_getElem (by omega)]
 unfold byI;rw [e];have e2:=Kb1 (str t) ((str t).size-1) (by rw [Xp5];omega);rw [<-e2];congr 1
end Go.Proofs.YtngepacmgabmaaaGreatDoor
