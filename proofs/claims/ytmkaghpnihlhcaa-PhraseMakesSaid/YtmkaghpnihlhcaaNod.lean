/- Nodes of a tree of phrases: cells; plain: what is wrong with a tree, the child by a byte, where a byte leads, the hits. -/
import Derived.Test.YtmkaghpnihlhcaaApp
namespace Go.Proofs.Ytmkaghpnihlhcaa
open Go.RowKit
set_option linter.unusedVariables false
set_option linter.unusedSimpArgs false
structure Nd where
 (b up fail:Int) (ends:List Int) (E:Option Addr) (ce:Nat)
def Nd.cs (x:Nd):List Value:= [.int .u8 x.b,.int .i64 x.up,.int .i64 x.fail,.slice x.E x.ends.length x.ce]
theorem Nd.cs_len (x:Nd):x.cs.length=4:=rfl
def ndFlat (l:List Nd):List Value:=l.flatMap Nd.cs
theorem ndFlat_len (l:List Nd):(ndFlat l).length=l.length*4:=by
 unfold ndFlat
 induction l with
 |nil=>rfl
 |cons x l ih=>rw [List.flatMap_cons,List.length_append,ih,Nd.cs_len,List.length_cons];omega
theorem ndFlat_app (l m:List Nd):ndFlat (l++m)=ndFlat l++ndFlat m:=List.flatMap_append
theorem ndFlat_get {l:List Nd} {k j:Nat} {i:Nd} (h:l[k]? =some i) (hj:j<4):(ndFlat l)[k*4+j]? =i.cs[j]? :=by
 obtain⟨hk,rfl⟩:=List.getElem?_eq_some_iff.1 h
 have e:l=l.take k++l[k]::l.drop (k+1):=by rw [←List.drop_eq_getElem_cons hk,List.take_append_drop]
 conv=>lhs;rw [e]
 have hc:ndFlat (l[k]::l.drop (k+1))=l[k].cs++ndFlat (l.drop (k+1)):=List.flatMap_cons
 rw [ndFlat_app,hc,List.getElem?_append_right (by rw [ndFlat_len,List.length_take];omega),ndFlat_len,List.length_take,Nat.min_eq_left (by omega),Nat.add_sub_cancel_left,List.getElem?_append_left (by rw [Nd.cs_len];exact hj)]
structure Nd.ok (w:World) (B:Nat) (x:Nd):Prop where
 b:(Lit.int .u8 x.b).wf=true
 up:(Lit.int .i64 x.up).wf=true
 fail:(Lit.int .i64 x.fail).wf=true
 ends:∀ e∈x.ends,(Lit.int .i64 e).wf=true
 rd:Reads w B 1 x.E x.ends.length (x.ends.map (Value.int .i64))
 ce:x.ends.length≤x.ce∧x.ce≤maxLen
structure NdR (w:World) (B:Nat) (A:Option Addr) (cap:Nat) (l:List Nd):Prop where
 rd:Reads w B 4 A l.length (ndFlat l)
 hB:B≤w.heap.size
 hc:l.length≤cap∧cap≤maxLen
 ok:∀ x,x∈l→x.ok w B
section
variable {w w':World} {B:Nat} {A:Option Addr} {cap:Nat} {l:List Nd}
theorem NdR.below (h:NdR w B A cap l) (hb:Below B w w'):NdR w' B A cap l:=⟨h.rd.below hb,Nat.le_trans h.hB hb.size,h.hc,fun x hx=>⟨(h.ok x hx).b,(h.ok x hx).up,(h.ok x hx).fail,(h.ok x hx).ends,(h.ok x hx).rd.below hb,(h.ok x hx).ce⟩⟩
theorem NdR.kept (h:NdR w B A cap l) (hb:Below w.heap.size w w'):NdR w' B A cap l:=h.below (hb.mono h.hB)
theorem NdR.drew (h:NdR w B A cap l):NdR w.drew B A cap l:=h.below (Below.refl _ _).drew
theorem NdR.at_ (h:NdR w B A cap l) {k:Nat} {x:Nd} (hx:l[k]? =some x):∃ ad,A=some ad∧ad.block<B∧w.cell? (ad.add (k*4))=some (.int .u8 x.b)∧w.cell? ⟨(ad.add (k*4)).block,(ad.add (k*4)).off+1,none⟩=some (.int .i64 x.up)∧w.cell? ⟨(ad.add (k*4)).block,(ad.add (k*4)).off+2,none⟩=some (.int .i64 x.fail)∧
 w.cell? ⟨(ad.add (k*4)).block,(ad.add (k*4)).off+3,none⟩=some (.slice x.E x.ends.length x.ce):=by
 obtain⟨hk,_⟩:=List.getElem?_eq_some_iff.1 hx
 obtain⟨ad,e,hb,hc⟩:=h.rd.2 (by omega)
 have key:∀ j,j<4→w.cell? ((ad.add (k*4)).add j)=x.cs[j]? :=fun j hj=>by
  rw [add_of_add]
  have h1:=ndFlat_get hx hj
  rw [List.getElem?_eq_getElem (show j<x.cs.length by rw [Nd.cs_len];exact hj)] at h1⊢
  exact hc _ _ h1
 have sp:∀ j,0<j→(ad.add (k*4)).add j=⟨(ad.add (k*4)).block,(ad.add (k*4)).off+j,none⟩:=fun j hj=>by
  generalize ad.add (k*4)=p
  unfold Addr.add;rw [if_neg (by omega)]
 refine⟨ad,e,hb,?_,?_,?_,?_⟩
 · have:=key 0 (by omega)
   rw [add_of_add] at this;exact this
 all_goals rw [←sp _ (by omega)];exact key _ (by omega)
end
def chN (l:List Nd):Nat→Int→Int→Option Nat
 |0,_,_=>none
 |n+1,u,b=>if 0<n∧(∃ x,l[n]? =some x∧x.up=u∧x.b=b) then some n else chN l n u b
def BadN (l:List Nd) (words:Int) (i:Nat) (x:Nd):Prop:=
 (∃ e∈x.ends,e<0∨words≤e)∨(0<i∧(x.up<0∨(i:Int)≤x.up∨x.fail<0∨(i:Int)≤x.fail∨chN l i x.up x.b≠none))
def GoodTo (l:List Nd) (words:Int) (n:Nat):Prop:=∀ i x,i<n→l[i]? =some x→¬BadN l words i x
theorem GoodTo.next {l:List Nd} {words:Int} {n:Nat} {x:Nd} (h:GoodTo l words n) (hx:l[n]? =some x) (hb:¬BadN l words n x):GoodTo l words (n+1):=fun i y hi hy=>by
 by_cases e:i=n
 · subst e;rw [hx] at hy;cases hy;exact hb
 · exact h i y (by omega) hy
end Go.Proofs.Ytmkaghpnihlhcaa
