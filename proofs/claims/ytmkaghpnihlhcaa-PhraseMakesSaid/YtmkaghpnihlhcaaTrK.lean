/- Ends of nodes: rows of ints of the call's own, copied, sorted, made longer; the nodes' memory while the ends are made; a tree that is laid. -/
import Derived.Test.YtmkaghpnihlhcaaTrI
import Derived.Test.YtmkaghpnihlhcaaShelf
import Derived.Sort.OwnSortedInts
namespace Go.Proofs.Ytmkaghpnihlhcaa
open Go.RowKit
open Go.Shelf Go.Lib Go.Sort
set_option linter.unusedVariables false
set_option linter.unusedSimpArgs false
def inC (m:List Nat):List Value:=m.map fun(k:Nat)=>Value.int .i64 (k:Int)
def inZ (m:List Nat):List Int:=m.map fun(k:Nat)=>(k:Int)
theorem inZ_len (m:List Nat):(inZ m).length=m.length:=List.length_map _
theorem inC_map (m:List Nat):(inZ m).map (Value.int .i64)=inC m:=by unfold inC inZ;rw [List.map_map];rfl
theorem inC_get {m:List Nat} {i:Nat} (h:i<m.length):(inC m)[i]? =some (.int .i64 (m[i]:Int)):=by
 unfold inC;rw [List.getElem?_map,List.getElem?_eq_getElem h];rfl
theorem inC_app (m l:List Nat):inC (m++l)=inC m++inC l:=List.map_append
def OwI (w:World) (B:Nat) (v:Value) (m:List Nat):Prop:=w.ownsRow B 3 1 v m.length (inC m)
theorem OwI.nil (w:World) (B:Nat):OwI w B (.slice none 0 0) []:=World.ownsRow_nil _ _ _ _
theorem OwI.step {w w':World} {B:Nat} {v:Value} {m:List Nat} (h:OwI w B v m) (hb:Below w.heap.size w w'):OwI w' B v m:=
 World.ownsRow.kept (row:=none) h ⟨hb.os,hb.tape,hb.output,hb.size,fun k hk _=>hb.block k hk⟩ (by
  rcases h.2 with⟨e,_⟩|⟨g,cap,cur,e,_⟩
  · rw [e];exact .inl rfl
  · rw [e];exact .inr (by simp [Value.ownBlock]))
theorem OwI.form {w:World} {B:Nat} {v:Value} {m:List Nat} (h:OwI w B v m):∃ A c,v= .slice A m.length c:=by
 rcases h.2 with⟨e,h0⟩|⟨g,cap,cur,e,_⟩
 · exact⟨none,0,by rw [e,h0]⟩
 · exact⟨_,_,e⟩
theorem OwI.more {w:World} {B B':Nat} {v:Value} {m:List Nat} (h:OwI w B v m) (hB:B'≤B):OwI w B' v m:=by
 refine⟨h.1,?_⟩
 rcases h.2 with e|⟨g,cap,cur,e,hg,r⟩
 · exact .inl e
 · exact .inr ⟨g,cap,cur,e,Nat.le_trans hB hg,r⟩
theorem OwI.set {w:World} {B:Nat} {v:Value} {m:List Nat} (h:OwI w B v m) {p:Addr} (hp:v.ownBlock≠some p.block) (u:Value):OwI (w.setCell p u) B v m:=
 World.ownsRow.kept (row:=some p.block) h ⟨rfl,rfl,rfl,by simp [World.setCell],fun k hk hk2=>Below.heap_setCell w p u k (fun e=>hk2 (by rw [e]))⟩ (.inr hp)
theorem clone_own {w:World} {B:Nat} {v:Value} {m:List Nat} (h:OwI w B v m) (hm:m.length≤1000):
 Calls Try.prog 10 #[v] w fun e w'=>∃ v',e= .returned v'∧OwI w' w.heap.size v' m∧Below w.heap.size w w':=by
 have hc:∀ g,v.ownBlock=some g→∀ j u,(inC m)[j]? =some u→w.cell? ((⟨g,0,none⟩:Addr).add j)=some u:=fun g hg=>World.ownsRow.cells h hg
 rcases h.2 with⟨rfl,h0⟩|⟨g,cap,cur,rfl,_⟩
 · have e0:m= []:=List.eq_nil_of_length_eq_zero h0
   subst e0
   refine(Try.slices_Clone_int_nil 0 0 w).mono ?_
   rintro e w' ⟨rfl,rfl⟩
   exact⟨_,rfl,OwI.nil _ _,Below.refl _ _⟩
 · by_cases h0:m.length=0
   · have e0:m= []:=List.eq_nil_of_length_eq_zero h0
     subst e0
     refine(Try.slices_Clone_int_zero ⟨g,0,none⟩ cap w).mono ?_
     rintro e w' ⟨v',rfl,h1,_,h2⟩
     exact⟨_,rfl,h1,h2⟩
   · have h1:=hc g rfl
     refine(Try.slices_Clone_int g 0 m.length cap (inZ m) w (by rw [inZ_len];exact Nat.le_refl _) (by omega) fun j hj=> ?_).mono ?_
     · rw [inZ_len] at hj
       have h2:=h1 j _ (inC_get hj)
       have e1:(⟨g,0,none⟩:Addr).add j=⟨g,0+j,none⟩:=by
        by_cases h:j=0
        · subst h;rfl
        · simp [Addr.add,h]
       rw [e1] at h2
       rw [h2,gD 0 (by rw [inZ_len];exact hj)]
       unfold inZ;rw [List.getElem_map]
     · rintro e w' ⟨v',rfl,h2,_,h3⟩
       refine⟨_,rfl,?_,h3⟩
       rw [List.take_of_length_le (by rw [inZ_len];exact Nat.le_refl _),inC_map] at h2
       exact h2
theorem sort_ownI {w:World} {B:Nat} {v:Value} {m m':List Nat} (h:OwI w B v m) (hm:m.length≤1000) (hB:B≤w.heap.size) (hn:m.Nodup) (hs:m'.Pairwise (· < ·)) (hmm:∀ x,x∈m↔x∈m'):
 Calls Try.prog 11 #[v] w fun e w'=>e= .returned (.tuple #[])∧OwI w' B v m'∧Below B w w':=by
 have hsrt:(inZ m).mergeSort (fun x y=>decide (x≤y))=inZ m':=by
  refine sort_same ?_ ?_ fun x=> ?_
  · exact List.Pairwise.map _ (fun a b hab e=>hab (by omega)) hn
  · exact List.Pairwise.map _ (fun a b hab=>by omega) hs
  · unfold inZ
    rw [List.mem_map,List.mem_map]
    exact⟨fun⟨a,h1,h2⟩=>⟨a,(hmm a).1 h1,h2⟩,fun⟨a,h1,h2⟩=>⟨a,(hmm a).2 h1,h2⟩⟩
 have hlen:m'.length=m.length:=by
  have h1:=congrArg List.length hsrt
  rw [List.length_mergeSort,inZ_len,inZ_len] at h1
  exact h1.symm
 by_cases h0:m.length=0
 · obtain⟨A,c,rfl⟩:=h.form
   have e0:m= []:=List.eq_nil_of_length_eq_zero h0
   have e1:m'= []:=List.eq_nil_of_length_eq_zero (by rw [hlen];exact h0)
   subst e0 e1
   refine(Try.slices_Sort_int_none A c w).mono ?_
   rintro e w' ⟨rfl,rfl⟩
   exact⟨rfl,h,Below.refl _ _⟩
 · rcases h.2 with⟨_,e0⟩|⟨g,cap,cur,rfl,hg,hw,hnc,hcap,hsz,htk⟩
   · exact absurd e0 h0
   · have hgl:g<w.heap.size:=(Array.getElem?_eq_some_iff.1 hw).1
     have hH:=holds_of_blockI (ss:=inZ m) hw (by rw [inZ_len,inC_map];rw [Nat.mul_one] at htk;exact htk)
     have hcon:=Try.slices_Sort_int g 0 cap (inZ m) w hH hgl (by rw [inZ_len];omega)
     rw [inZ_len] at hcon
     refine hcon.mono ?_
     rintro e w' ⟨rfl,n,os,rfl⟩
     rw [hsrt]
     refine⟨rfl,?_,(Below.refl _ _).grown (grownBy_sortedI (inZ m').toArray) hB fun k e=>by injection e with e;omega⟩
     have h1:=ownsRow_sortedI (n:=n) (os:=os) (ss:=inZ m) (ts:=inZ m') (base:=B) (by rw [inZ_len,inZ_len];exact hlen) hg hw (by rw [inZ_len];exact hnc) hcap hsz
     rw [inC_map,inZ_len] at h1
     unfold OwI
     rw [hlen]
     exact h1
theorem infoIntK:(Try.prog.info? 3).map (fun i=>(i.zero,i.size,i.bytes))=some (some (.int .i64 0),1,8):=by kernel_rfl
theorem wpL_in {w:World} {B:Nat} {v:Value} {m:List Nat} {ops:Array Oper} {rest:List Oper} {o:Oper} {a:Act} {Q:Exit→Act→World→Prop} (hgd:o.guard=none) (s x:Operand)
 (ho:o.op= .call {callee:= .builtin .append,args:=#[s,x],argTypes:=#[31,31]})
 (h:OwI w B v m) (hs:a.eval s=v) (y:Nat) (hx:a.eval x= .slice (some ⟨w.heap.size,0,none⟩) 1 1) (hlen:m.length≤1000000) (hB:B≤w.heap.size)
 (hK:∀ A c w',OwI w' B (.slice A (m.length+1) c) (m++ [y])→Below B w w'→wpList Try.prog ops Q rest (a.put o.dst (.slice A (m.length+1) c)) w'):
 wpList Try.prog ops Q (o::rest) a (w.alloc (.cells #[.int .i64 (y:Int)] 3)):=by
 obtain⟨i0,hi0,hz0,hz1,hz2⟩:=info_parts infoIntK
 refine wpL_appG (P:=Try.prog) (Q:=Q) (rest:=rest) (ops:=ops) hgd s x ho Try.underlying31 hi0 hz0 hz1 hz2 rfl (by decide) h hs [.int .i64 (y:Int)] 1 1 hx rfl (by
  intro u hu
  simp only [List.mem_cons,List.not_mem_nil,or_false] at hu
  rcases hu with rfl;rfl) (by unfold maxLen;omega) (by omega) hB fun v' w' h4 h5=> ?_
 have e:inC m++ [.int .i64 (y:Int)]=inC (m++ [y]):=by rw [inC_app];rfl
 rw [e] at h4
 rcases h4.2 with⟨_,h0⟩|⟨g,cap,cur,e1,_⟩
 · omega
 · subst e1
   refine hK _ _ w' ?_ (h5.below hB fun g e=>own_from h g e)
   unfold OwI
   rw [List.length_append,List.length_singleton]
   exact h4
structure Ez (b0 H gm gk g ga N c:Nat) (D:List (Nat×Nat×Nat)) (aw:List Nat) (m:Nat) (EN:Nat→List Nat) (EV:Nat→Value) (wr:World):Prop where
 mb:Blk wr gm 36 #[.slice (some ⟨g,0,none⟩) N c,.map (some gk),.slice (some ⟨ga,0,none⟩) aw.length aw.length]
 nb:∃ CS,Blk wr g 33 CS∧∀ k,k<N→CS[k*4]? =some (.int .u8 ((D.getD k (0,0,0)).1:Int))∧CS[k*4+1]? =some (.int .i64 ((D.getD k (0,0,0)).2.1:Int))∧CS[k*4+2]? =some (.int .i64 ((D.getD k (0,0,0)).2.2:Int))∧CS[k*4+3]? =some (EV k)
 ba:Blk wr ga 3 (atV aw).toArray
 en:∀ k,k<m→OwI wr b0 (EV k) (EN k)∧∀ x,(EV k).ownBlock=some x→x<H∧x≠g
 ne:gm≠g∧ga≠g
 lo:b0≤gm∧b0≤g∧b0≤ga
 hi:gm<H∧g<H∧ga<H∧H≤wr.heap.size
section
variable {b0 H gm gk g ga N c m:Nat} {D:List (Nat×Nat×Nat)} {aw:List Nat} {EN:Nat→List Nat} {EV:Nat→Value} {wr wr':World}
theorem Ez.step (h:Ez b0 H gm gk g ga N c D aw m EN EV wr) (hb:Below H wr wr'):Ez b0 H gm gk g ga N c D aw m EN EV wr':=by
 obtain⟨h1,h2,h3,h4⟩:=h.hi
 obtain⟨CS,hC,hd⟩:=h.nb
 refine⟨Blk.below h.mb hb h1,⟨CS,Blk.below hC hb h2,hd⟩,Blk.below h.ba hb h3,fun k hk=> ?_,h.ne,h.lo,⟨h1,h2,h3,Nat.le_trans h4 hb.size⟩⟩
 obtain⟨o1,o2⟩:=h.en k hk
 refine⟨?_,o2⟩
 rcases o1.2 with e|⟨x,cap,cur,e,hx,hw,r⟩
 · exact⟨o1.1,.inl e⟩
 · exact⟨o1.1,.inr ⟨x,cap,cur,e,hx,(hb.block x (o2 x (by rw [e];rfl)).1).trans hw,r⟩⟩
theorem Ez.up (h:Ez b0 H gm gk g ga N c D aw m EN EV wr) {H':Nat} (h1:H≤H') (h2:H'≤wr.heap.size):Ez b0 H' gm gk g ga N c D aw m EN EV wr:=by
 obtain⟨k1,k2,k3,k4⟩:=h.hi
 exact⟨h.mb,h.nb,h.ba,fun k hk=>⟨(h.en k hk).1,fun x hx=>⟨Nat.lt_of_lt_of_le ((h.en k hk).2 x hx).1 h1,((h.en k hk).2 x hx).2⟩⟩,h.ne,h.lo,⟨by omega,by omega,by omega,h2⟩⟩
theorem Ez.weak (h:Ez b0 H gm gk g ga N c D aw m EN EV wr) {m':Nat} (h1:m'≤m):Ez b0 H gm gk g ga N c D aw m' EN EV wr:=⟨h.mb,h.nb,h.ba,fun k hk=>h.en k (by omega),h.ne,h.lo,h.hi⟩
theorem addN (g i:Nat):(⟨g,0,none⟩:Addr).add (i*4)=⟨g,i*4,none⟩:=by
 by_cases h:i=0
 · subst h;rfl
 · have:i*4≠0:=by omega
   simp [Addr.add,this]
theorem Ez.node (h:Ez b0 H gm gk g ga N c D aw m EN EV wr) {k:Nat} (hk:k<N):wr.cell? ⟨g,k*4,none⟩=some (.int .u8 ((D.getD k (0,0,0)).1:Int))∧wr.cell? ⟨g,k*4+1,none⟩=some (.int .i64 ((D.getD k (0,0,0)).2.1:Int))∧wr.cell? ⟨g,k*4+2,none⟩=some (.int .i64 ((D.getD k (0,0,0)).2.2:Int))∧wr.cell? ⟨g,k*4+3,none⟩=some (EV k)∧wr.frozen? ⟨g,k*4+3,none⟩=false:=by
 obtain⟨CS,hC,hd⟩:=h.nb
 obtain⟨d0,d1,d2,d3⟩:=hd k hk
 exact⟨(hC.cell _).trans d0,(hC.cell _).trans d1,(hC.cell _).trans d2,(hC.cell _).trans d3,hC.frozen _⟩
theorem Ez.atw (h:Ez b0 H gm gk g ga N c D aw m EN EV wr) {i:Nat} (hi:i<aw.length):wr.cell? ((⟨ga,0,none⟩:Addr).add i)=some (.int .i64 (aw[i]:Int))∧wr.cell? ⟨ga,i,none⟩=some (.int .i64 (aw[i]:Int)):=by
 have e1:(⟨ga,0,none⟩:Addr).add i=⟨ga,i,none⟩:=by
  by_cases h:i=0
  · subst h;rfl
  · simp [Addr.add,h]
 have h1:wr.cell? ⟨ga,i,none⟩=some (.int .i64 (aw[i]:Int)):=by
  rw [h.ba.cell i]
  unfold atV
  simp [List.getElem?_eq_getElem hi]
 rw [e1]
 exact⟨h1,h1⟩
theorem Ez.put (h:Ez b0 H gm gk g ga N c D aw m EN EV wr) {i:Nat} (hm:m≤i) (v:Value):Ez b0 H gm gk g ga N c D aw m EN (fun k=>if k=i then v else EV k) (wr.setCell ⟨g,i*4+3,none⟩ v):=by
 obtain⟨CS,hC,hd⟩:=h.nb
 obtain⟨n1,n2⟩:=h.ne
 refine⟨Blk.far h.mb (by dsimp only;omega) _,⟨_,hC.set_ _ _,fun k hk=> ?_⟩,Blk.far h.ba (by dsimp only;omega) _,fun k hk=> ?_,h.ne,h.lo,⟨h.hi.1,h.hi.2.1,h.hi.2.2.1,by have:=h.hi.2.2.2;simpa [World.setCell] using this⟩⟩
 · obtain⟨d0,d1,d2,d3⟩:=hd k hk
   refine⟨?_,?_,?_,?_⟩
   · rw [Array.getElem?_setIfInBounds_ne (by omega)];exact d0
   · rw [Array.getElem?_setIfInBounds_ne (by omega)];exact d1
   · rw [Array.getElem?_setIfInBounds_ne (by omega)];exact d2
   · by_cases e:k=i
     · subst e
       rw [Array.getElem?_setIfInBounds_self_of_lt (Array.getElem?_eq_some_iff.1 d3).1,if_pos rfl]
     · rw [Array.getElem?_setIfInBounds_ne (by omega),if_neg e];exact d3
 · obtain⟨o1,o2⟩:=h.en k hk
   rw [if_neg (show ¬k=i by omega)]
   exact⟨o1.set (fun e=>(o2 _ e).2 rfl) _,o2⟩
theorem Ez.next (h:Ez b0 H gm gk g ga N c D aw m EN EV wr) {v:Value} {xs:List Nat} {H':Nat} (hv:OwI wr H v xs) (he:EV m=v) (hx:EN m=xs) (h1:H≤H') (h2:H'=wr.heap.size):Ez b0 H' gm gk g ga N c D aw (m+1) EN EV wr:=by
 have hu:=h.up (H':=H') h1 (by omega)
 refine⟨hu.mb,hu.nb,hu.ba,fun k hk=> ?_,hu.ne,hu.lo,hu.hi⟩
 by_cases e:k=m
 · subst e
   rw [he,hx]
   refine⟨hv.more (by have:=h.hi;have:=h.lo;omega),fun x hx=> ?_⟩
   have h3:=World.ownsRow.lt hv x hx
   have:=h.hi
   exact⟨by omega,by omega⟩
 · exact hu.en k (by omega)
end
def TreeM (w:World) (B:Nat) (A:Option Addr) (D:List (Nat×Nat×Nat)) (EN:Nat→List Nat):Prop:=∀ k,k<D.length→∃ g,A=some ⟨g,0,none⟩∧g<B∧w.cell? ⟨g,k*4,none⟩=some (.int .u8 ((D.getD k (0,0,0)).1:Int))∧w.cell? ⟨g,k*4+1,none⟩=some (.int .i64 ((D.getD k (0,0,0)).2.1:Int))∧w.cell? ⟨g,k*4+2,none⟩=some (.int .i64 ((D.getD k (0,0,0)).2.2:Int))∧
 ∃ E ce,w.cell? ⟨g,k*4+3,none⟩=some (.slice E (EN k).length ce)∧Reads w B 1 E (EN k).length (inC (EN k))
theorem TreeM.below {w w':World} {B:Nat} {A:Option Addr} {D:List (Nat×Nat×Nat)} {EN:Nat→List Nat} (h:TreeM w B A D EN) (hb:Below B w w'):TreeM w' B A D EN:=fun k hk=>by
 obtain⟨g,e,hg,c0,c1,c2,E,ce,c3,hr⟩:=h k hk
 have key:∀ j,w'.cell? ⟨g,j,none⟩=w.cell? ⟨g,j,none⟩:=fun j=>hb.cell (p:=⟨g,j,none⟩) hg
 exact⟨g,e,hg,by rw [key];exact c0,by rw [key];exact c1,by rw [key];exact c2,E,ce,by rw [key];exact c3,hr.below hb⟩
theorem Ez.tree {b0 H gm gk g ga N c m:Nat} {D:List (Nat×Nat×Nat)} {aw:List Nat} {EN:Nat→List Nat} {EV:Nat→Value} {wr:World} (h:Ez b0 H gm gk g ga N c D aw m EN EV wr) (hN:D.length=N) (hm:N≤m):TreeM wr wr.heap.size (some ⟨g,0,none⟩) D EN:=fun k hk=>by
 obtain⟨c0,c1,c2,c3,_⟩:=h.node (k:=k) (by omega)
 obtain⟨o1,o2⟩:=h.en k (by omega)
 obtain⟨E,ce,e⟩:=o1.form
 refine⟨g,rfl,by have:=h.hi;omega,c0,c1,c2,E,ce,by rw [c3,e],?_⟩
 unfold OwI at o1
 rw [e] at o1
 exact Reads.of_own o1
end Go.Proofs.Ytmkaghpnihlhcaa
