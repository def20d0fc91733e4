/- The reference's nodes in memory; plain: what its loops over a node give. -/
import Derived.Test.YtmkaghpnihlhcaaTrN
namespace Go.Proofs.Ytmkaghpnihlhcaa
open Go.RowKit
set_option linter.unusedVariables false
set_option linter.unusedSimpArgs false
def ncC (x:Nat×Nat×Nat×Value):List Value:= [.int .u8 (x.1:Int),.int .i64 (x.2.1:Int),.int .i64 (x.2.2.1:Int),x.2.2.2]
def ncF (l:List (Nat×Nat×Nat×Value)):List Value:=l.flatMap ncC
theorem ncF_len (l:List (Nat×Nat×Nat×Value)):(ncF l).length=l.length*4:=by
 unfold ncF
 induction l with
 |nil=>rfl
 |cons x l ih=>rw [List.flatMap_cons,List.length_append,ih,List.length_cons];show 4+_=_;omega
theorem ncF_app (l m:List (Nat×Nat×Nat×Value)):ncF (l++m)=ncF l++ncF m:=List.flatMap_append
theorem ncF_get {D:List (Nat×Nat×Nat×Value)} {k j:Nat} (hk:k<D.length) (hj:j<4):(ncF D)[k*4+j]? =(ncC D[k])[j]? :=by
 have e:D=D.take k++D[k]::D.drop (k+1):=by rw [←List.drop_eq_getElem_cons hk,List.take_append_drop]
 conv=>lhs;rw [e]
 have hc:ncF (D[k]::D.drop (k+1))=ncC D[k]++ncF (D.drop (k+1)):=List.flatMap_cons
 rw [ncF_app,hc,List.getElem?_append_right (by rw [ncF_len,List.length_take];omega),ncF_len,List.length_take,Nat.min_eq_left (by omega),Nat.add_sub_cancel_left,List.getElem?_append_left (by show j<4;exact hj)]
structure Ot (b0 H:Nat) (v:Value) (l:List (Nat×Nat×Nat×Value)) (EN:Nat→List Nat) (wr:World):Prop where
 ow:wr.ownsRow b0 33 4 v l.length (ncF l)
 vo:∀ x,v.ownBlock=some x→x<H
 en:∀ k (hk:k<l.length),OwI wr b0 l[k].2.2.2 (EN k)∧∀ x,l[k].2.2.2.ownBlock=some x→x<H∧v.ownBlock≠some x
 hi:H≤wr.heap.size
 lo:b0≤H
theorem own_low {w w':World} {B sz n H:Nat} {E:TypeId} {v:Value} {xs:List Value} (h:w.ownsRow B E sz v n xs) (hv:∀ x,v.ownBlock=some x→x<H) (hb:Below H w w'):w'.ownsRow B E sz v n xs:=by
 rcases h.2 with e|⟨x,cap,cur,e,hx,hw,r⟩
 · exact⟨h.1,.inl e⟩
 · exact⟨h.1,.inr ⟨x,cap,cur,e,hx,(hb.block x (hv x (by rw [e];rfl))).trans hw,r⟩⟩
section
variable {b0 H:Nat} {v:Value} {l:List (Nat×Nat×Nat×Value)} {EN:Nat→List Nat} {w wr wr':World}
theorem Ot.nil (b0:Nat) (EN:Nat→List Nat) (wr:World) (h:b0≤wr.heap.size):Ot b0 wr.heap.size (.slice none 0 0) [] EN wr:=⟨World.ownsRow_nil _ _ _ _,fun x hx=>(by cases hx),fun k hk=>absurd hk (Nat.not_lt_zero _),Nat.le_refl _,h⟩
theorem Ot.step (h:Ot b0 H v l EN wr) (hb:Below H wr wr'):Ot b0 H v l EN wr':=
 ⟨own_low h.ow h.vo hb,h.vo,fun k hk=>⟨own_low (h.en k hk).1 (fun x hx=>((h.en k hk).2 x hx).1) hb,(h.en k hk).2⟩,Nat.le_trans h.hi hb.size,h.lo⟩
theorem Ot.up (h:Ot b0 H v l EN wr) {H':Nat} (h1:H≤H') (h2:H'≤wr.heap.size):Ot b0 H' v l EN wr:=
 ⟨h.ow,fun x hx=>Nat.lt_of_lt_of_le (h.vo x hx) h1,fun k hk=>⟨(h.en k hk).1,fun x hx=>⟨Nat.lt_of_lt_of_le ((h.en k hk).2 x hx).1 h1,((h.en k hk).2 x hx).2⟩⟩,h2,Nat.le_trans h.lo h1⟩
theorem wpL_nc {ops:Array Oper} {rest:List Oper} {o:Oper} {a:Act} {Q:Exit→Act→World→Prop} (hgd:o.guard=none) (s x:Operand)
 (ho:o.op= .call {callee:= .builtin .append,args:=#[s,x],argTypes:=#[23,23]})
 (h:Ot b0 H v l EN w) (hs:a.eval s=v) (b u f:Nat) (E:Value) (xs:List Nat) (hE:OwI w H E xs) (hEN:EN l.length=xs)
 (hx:a.eval x= .slice (some ⟨w.heap.size,0,none⟩) 1 1) (hlen:l.length≤1000000)
 (hK:∀ A c w',Ot b0 w'.heap.size (.slice A (l.length+1) c) (l++ [(b,u,f,E)]) EN w'→Below b0 w w'→wpList Try.prog ops Q rest (a.put o.dst (.slice A (l.length+1) c)) w'):
 wpList Try.prog ops Q (o::rest) a (w.alloc (.cells #[.int .u8 (b:Int),.int .i64 (u:Int),.int .i64 (f:Int),E] 33)):=by
 obtain⟨i0,hi0,hz0,hz1,hz2⟩:=info_parts infoNode
 have hB:b0≤w.heap.size:=Nat.le_trans h.lo h.hi
 refine wpL_appG (P:=Try.prog) (Q:=Q) (rest:=rest) (ops:=ops) hgd s x ho Try.underlying23 hi0 hz0 hz1 hz2 rfl (by decide) h.ow hs [.int .u8 (b:Int),.int .i64 (u:Int),.int .i64 (f:Int),E] 1 1 hx rfl (by
  intro y hy
  simp only [List.mem_cons,List.not_mem_nil,or_false] at hy
  obtain⟨A,c,e⟩:=hE.form
  rcases hy with rfl|rfl|rfl|rfl
  · rfl
  · rfl
  · rfl
  · rw [e];rfl) (by unfold maxLen;omega) (by omega) hB fun v' w' h4 h5=> ?_
 have hb:=h5.below hB fun g e=>own_from h.ow g e
 have e2:ncF l++ [.int .u8 (b:Int),.int .i64 (u:Int),.int .i64 (f:Int),E]=ncF (l++ [(b,u,f,E)]):=by rw [ncF_app];unfold ncF;simp [ncC]
 rw [e2] at h4
 have hEl:=World.ownsRow.lt hE
 have keepE:∀ {V:Value} {m:List Nat},OwI w b0 V m→(∀ x,V.ownBlock=some x→v.ownBlock≠some x)→OwI w' b0 V m:=fun {V m} ho hne=>by
  rcases ho.2 with e|⟨q,cap,cur,e,hq,hw,r⟩
  · exact⟨ho.1,.inl e⟩
  · have hql:q<w.heap.size:=(Array.getElem?_eq_some_iff.1 hw).1
    exact⟨ho.1,.inr ⟨q,cap,cur,e,hq,(h5.grown.block q hql (fun e2=>hne q (by rw [e];rfl) e2.symm)).trans hw,r⟩⟩
 have offE:∀ x,x<w.heap.size→v.ownBlock≠some x→v'.ownBlock≠some x:=fun x h1 h2=>h5.off h1 h2
 have hOt:Ot b0 w'.heap.size v' (l++ [(b,u,f,E)]) EN w':=by
  refine⟨by rw [List.length_append,List.length_singleton];exact h4,fun x hx=>(World.ownsRow.lt h4 x hx).2,fun k hk=> ?_,Nat.le_refl _,Nat.le_trans hB hb.size⟩
  by_cases hkl:k<l.length
  · rw [List.getElem_append_left hkl]
    obtain⟨o1,o2⟩:=h.en k hkl
    refine⟨keepE o1 fun x hx=>(o2 x hx).2,fun x hx=> ?_⟩
    have h6:=(World.ownsRow.lt o1 x hx).2
    exact⟨Nat.lt_of_lt_of_le h6 hb.size,offE x h6 (o2 x hx).2⟩
  · have hk2:k=l.length:=by rw [List.length_append,List.length_singleton] at hk;omega
    subst hk2
    rw [List.getElem_append_right (Nat.le_refl _)]
    simp only [Nat.sub_self,List.getElem_cons_zero]
    have hne:∀ x,E.ownBlock=some x→v.ownBlock≠some x:=fun x hx e=>by
     have h7:=(hEl x hx).1
     have h8:=h.vo x e
     omega
    refine⟨?_,fun x hx=>⟨Nat.lt_of_lt_of_le (hEl x hx).2 hb.size,offE x (hEl x hx).2 (hne x hx)⟩⟩
    rw [hEN]
    exact keepE (hE.more h.lo) hne
 rcases h4.2 with⟨_,h0⟩|⟨g,cap,cur,e1,_⟩
 · omega
 · subst e1
   exact hK _ _ w' hOt hb
theorem Ot.tree {A:Option Addr} {c:Nat} {D:List (Nat×Nat×Nat)} (h:Ot b0 H (.slice A l.length c) l EN wr) (hD:D.length=l.length) (hn:∀ k (hk:k<l.length),(l[k].1,l[k].2.1,l[k].2.2.1)=D.getD k (0,0,0)):TreeM wr wr.heap.size A D EN:=fun k hk=>by
 rcases h.ow.2 with⟨_,h0⟩|⟨g,cap,cur,e1,_,hg,_⟩
 · omega
 · injection e1 with e1 _ _
   subst e1
   have hgl:g<wr.heap.size:=(Array.getElem?_eq_some_iff.1 hg).1
   have hkl:k<l.length:=by omega
   have key:∀ j,j<4→wr.cell? ⟨g,k*4+j,none⟩=(ncC l[k])[j]? :=fun j hj=>by
    have h1:=ncF_get hkl hj
    have hj2:j<(ncC l[k]).length:=hj
    rw [List.getElem?_eq_getElem hj2] at h1⊢
    have h2:=World.ownsRow.cells h.ow (g:=g) rfl (k*4+j) _ h1
    have e1:(⟨g,0,none⟩:Addr).add (k*4+j)=⟨g,k*4+j,none⟩:=by
     by_cases h:k*4+j=0
     · rw [h];rfl
     · unfold Addr.add;rw [if_neg h];simp
    rw [e1] at h2;exact h2
   have hn1:=hn k hkl
   rw [←hn1]
   obtain⟨o1,_⟩:=h.en k hkl
   obtain⟨E,ce,e⟩:=o1.form
   refine⟨g,rfl,hgl,key 0 (by omega),key 1 (by omega),key 2 (by omega),E,ce,?_,?_⟩
   · rw [key 3 (by omega),←e];rfl
   · unfold OwI at o1
     rw [e] at o1
     exact Reads.of_own o1
end
def enP (L:List (List UInt8)) (t:List UInt8) (k:Nat):List Nat:=(List.range k).filter fun q=>(L.getD q []).isSuffixOf t
theorem enP_all (L:List (List UInt8)) (t:List UInt8):enP L t L.length=enI L t:=rfl
theorem enP_yes {L:List (List UInt8)} {t:List UInt8} {k:Nat} (h:(L.getD k []).isSuffixOf t=true):enP L t (k+1)=enP L t k++ [k]:=by
 unfold enP
 rw [List.range_succ,List.filter_append]
 congr 1
 rw [List.filter_cons,if_pos h];rfl
theorem enP_no {L:List (List UInt8)} {t:List UInt8} {k:Nat} (h:(L.getD k []).isSuffixOf t=false):enP L t (k+1)=enP L t k:=by
 unfold enP
 rw [List.range_succ,List.filter_append,List.filter_cons,if_neg (by rw [h];decide),List.filter_nil,List.append_nil]
theorem enP_len (L:List (List UInt8)) (t:List UInt8) (k:Nat):(enP L t k).length≤k:=Nat.le_trans (List.length_filter_le _ _) (by rw [List.length_range];exact Nat.le_refl _)
theorem flN_yes {T:List (List UInt8)} {t:List UInt8} {k:Nat} (h1:(T.getD k []).length<t.length) (h2:(T.getD k []).isSuffixOf t=true):flN T t (k+1)=k:=by
 rw [flN,if_pos ⟨h1,h2⟩]
theorem flN_no {T:List (List UInt8)} {t:List UInt8} {k:Nat} (h:¬((T.getD k []).length<t.length∧(T.getD k []).isSuffixOf t=true)):flN T t (k+1)=flN T t k:=by
 rw [flN];exact if_neg h
theorem ndI_zero {T:List (List UInt8)} (h:Gd T):ndI T (T.getD 0 [])=(0,0,0):=by
 rw [h.he]
 unfold ndI
 rw [flI_nil]
 have e:upI T []=0:=by
  unfold upI
  show ix T []=0
  rw [←h.he];exact ix_of h.nd h.po
 rw [e];rfl
theorem idx_ix {T:List (List UInt8)} {t:List UInt8} (hn:T.Nodup) (h:t∈T):Lib.idxOfS (T.map str) (str t)=(ix T t:Int):=by
 have h1:=ix_lt h
 have hl:(T.map str).length=T.length:=List.length_map _
 have hg:∀ j,j<T.length→(T.map str).getD j ByteArray.empty=str (T.getD j []):=fun j hj=>by
  rw [gD _ (by rw [hl];exact hj),List.getElem_map,gD _ hj]
 have h2:=Lib.idxOfS_hit (T.map str) T.length (ix T t) (str t) h1 (by rw [hl];exact Nat.le_refl _) (by rw [hg _ h1,ix_get h]) (fun j hj e=>by
  have hjl:j<T.length:=by omega
  rw [hg j hjl] at e
  have e2:T.getD j []=t:=by
   have:=congrArg lst e
   rw [lst_str,lst_str] at this;exact this
  have h3:=get_inj hn hjl h1 (by rw [e2,ix_get h])
  omega)
 rw [List.take_of_length_le (by rw [hl];exact Nat.le_refl _)] at h2
 exact h2
theorem byI_last {t:List UInt8} (h:0<t.length):byI t=((str t)[(str t).size-1]'(by rw [size_str];omega)).toNat:=by
 have e:t.getLast? =some (t[t.length-1]'(by omega)):=by
  rw [List.getLast?_eq_getElem?,List.getElem?_eq_getElem (by omega)]
 unfold byI
 rw [e]
 have e2:=lst_get (str t) ((str t).size-1) (by rw [size_str];omega)
 rw [←e2]
 congr 1
end Go.Proofs.Ytmkaghpnihlhcaa
