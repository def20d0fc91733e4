/- Ends of nodes: rows of ints of the call'; Plain: what phrase.Make's loops give; th .. -/
import Derived.Sort.OwnSortedInts
import Derived.Test.YtngepacmgabmaaaGreatDoorGaq
namespace Go.Proofs.YtngepacmgabmaaaGreatDoor
open Go.RowKit
set_option linter.unusedVariables false
set_option linter.unusedSimpArgs false
section
open Go.Shelf Go.Lib Go.Sort
def inC (m:List Nat):List Value:=m.map fun(k:Nat)=>Value.int .i64 (k:Int)
def inZ (m:List Nat):List Int:=m.map fun(k:Nat)=>(k:Int)
theorem YI9 (m:List Nat):(inZ m).length=m.length:=List.length_map _
theorem JX9 (m:List Nat):(inZ m).map (Value.int .i64)=inC m:=by unfold inC inZ;rw [List.map_map];rfl
theorem jN4 {m:List Nat} {i:Nat} (h:i<m.length):(inC m)[i]? =some (.int .i64 (m[i]:Int)):=by
 unfold inC;rw [List.getElem?_map,List.getElem?_eq_getElem h];rfl
theorem Jv6 (m l:List Nat):inC (m++l)=inC m++inC l:=List.map_append
def OwI (w:World) (B:Nat) (v:Value) (m:List Nat):Prop:=w.ownsRow B 3 1 v m.length (inC m)
theorem OwI.nil (w:World) (B:Nat):OwI w B (.slice none 0 0) []:=World.ownsRow_nil _ _ _ _
theorem OwI.step {w w':World} {B:Nat} {v:Value} {m:List Nat} (h:OwI w B v m) (hb:Below w.heap.size w w'):OwI w' B v m:=
 World.ownsRow.kept (row:=none) h ⟨hb.os,hb.tape,hb.output,hb.size,λ k hk _=>hb.block k hk⟩ (by
  rcases h.2 with⟨e,_⟩|⟨g,cap,cur,e,_⟩
  . rw [e];exact .inl rfl
  . rw [e];exact .inr (by simp [Value.ownBlock]))
theorem OwI.form {w:World} {B:Nat} {v:Value} {m:List Nat} (h:OwI w B v m):∃ A c,v= .slice A m.length c:=by
 rcases h.2 with⟨e,h0⟩|⟨g,cap,cur,e,_⟩
 . exact⟨none,0,by rw [e,h0]⟩
 . exact⟨_,_,e⟩
theorem OwI.more {w:World} {B B':Nat} {v:Value} {m:List Nat} (h:OwI w B v m) (hB:B'<=B):OwI w B' v m:=by
 refine⟨h.1,?_⟩;rcases h.2 with e|⟨g,cap,cur,e,hg,r⟩
 . exact .inl e
 . exact .inr ⟨g,cap,cur,e,Nat.le_trans hB hg,r⟩
theorem OwI.set {w:World} {B:Nat} {v:Value} {m:List Nat} (h:OwI w B v m) {p:Addr} (hp:v.ownBlock≠some p.block) (u:Value):OwI (w.setCell p u) B v m:=
 World.ownsRow.kept (row:=some p.block) h ⟨rfl,rfl,rfl,by simp [World.setCell],λ k hk hk2=>Below.heap_setCell w p u k (λ e=>hk2 (by rw [e]))⟩ (.inr hp)
theorem zz1 {w:World} {B:Nat} {v:Value} {m:List Nat} (h:OwI w B v m) (hm:m.length<=1000):
 Calls Tryz.prog 139 #[v] w λ e w'=>∃ v',e= .returned v'/\OwI w' w.heap.size v' m/\Below w.heap.size w w':=by
 have hc:∀ g,v.ownBlock=some g->∀ j u,(inC m)[j]? =some u->w.cell? ((⟨g,0,none⟩:Addr).add j)=some u:=λ g hg=>World.ownsRow.cells h hg
 rcases h.2 with⟨rfl,h0⟩|⟨g,cap,cur,rfl,_⟩
 . have e0:m= []:=List.eq_nil_of_length_eq_zero h0;subst e0;refine(Tryz.slices_Clone_int_nil 0 0 w).mono ?_;rintro e w' ⟨rfl,rfl⟩;exact⟨_,rfl,OwI.nil _ _,Below.refl _ _⟩
 . by_cases h0:m.length=0
   . have e0:m= []:=List.eq_nil_of_length_eq_zero h0;subst e0;refine(Tryz.slices_Clone_int_zero ⟨g,0,none⟩ cap w).mono ?_;rintro e w' ⟨v',rfl,h1,_,h2⟩;exact⟨_,rfl,h1,h2⟩
   . have h1:=hc g rfl;refine(Tryz.slices_Clone_int g 0 m.length cap (inZ m) w (by rw [YI9];exact Nat.le_refl _) (by omega) λ j hj=> ?_).mono ?_
     . rw [YI9] at hj;have h2:=h1 j _ (jN4 hj)
       have e1:(⟨g,0,none⟩:Addr).add j=⟨g,0+j,none⟩:=by
        by_cases h:j=0
        . subst h;rfl
        . simp [Addr.add,h]
       rw [e1] at h2;rw [h2,gD 0 (by rw [YI9];exact hj)];unfold inZ;rw [List.getElem_map]
     . rintro e w' ⟨v',rfl,h2,_,h3⟩;refine⟨_,rfl,?_,h3⟩;rw [List.take_of_length_le (by rw [YI9];exact Nat.le_refl _),JX9] at h2;exact h2
theorem YN2 {w:World} {B:Nat} {v:Value} {m m':List Nat} (h:OwI w B v m) (hm:m.length<=1000) (hB:B<=w.heap.size) (hn:m.Nodup) (hs:m'.Pairwise (· < ·)) (hmm:∀ x,x∈m<->x∈m'):
 Calls Tryz.prog 140 #[v] w λ e w'=>e= .returned (.tuple #[])/\OwI w' B v m'/\Below B w w':=by
 have hsrt:(inZ m).mergeSort (λ x y=>decide (x<=y))=inZ m':=by
  refine jU8 ?_ ?_ λ x=> ?_
  . exact List.Pairwise.map _ (λ a b hab e=>hab (by omega)) hn
  . exact List.Pairwise.map _ (λ a b hab=>by omega) hs
  . unfold inZ;rw [List.mem_map,List.mem_map];exact⟨fun⟨a,h1,h2⟩=>⟨a,(hmm a).1 h1,h2⟩,fun⟨a,h1,h2⟩=>⟨a,(hmm a).2 h1,h2⟩⟩
 have hlen:m'.length=m.length:=by
  have h1:=congrArg List.length hsrt;rw [List.length_mergeSort,YI9,YI9] at h1;exact h1.symm
 by_cases h0:m.length=0
 . obtain⟨A,c,rfl⟩:=h.form;have e0:m= []:=List.eq_nil_of_length_eq_zero h0;have e1:m'= []:=List.eq_nil_of_length_eq_zero (by rw [hlen];exact h0);subst e0 e1;refine(Tryz.slices_Sort_int_none A c w).mono ?_;rintro e w' ⟨rfl,rfl⟩;exact⟨rfl,h,Below.refl _ _⟩
 . rcases h.2 with⟨_,e0⟩|⟨g,cap,cur,rfl,hg,hw,hnc,hcap,hsz,htk⟩
   . exact absurd e0 h0
   . have hgl:g<w.heap.size:=(Array.getElem?_eq_some_iff.1 hw).1;have hH:=holds_of_blockI (ss:=inZ m) hw (by rw [YI9,JX9];rw [Nat.mul_one] at htk;exact htk);have hcon:=Tryz.slices_Sort_int g 0 cap (inZ m) w hH hgl (by rw [YI9];omega);rw [YI9] at hcon;refine hcon.mono ?_;rintro e w' ⟨rfl,n,os,rfl⟩;rw [hsrt];refine⟨rfl,?_,(Below.refl _ _).grown (grownBy_sortedI (inZ m').toArray) hB λ k e=>by injection e with e;omega⟩;have h1:=ownsRow_sortedI (n:=n) (os:=os) (ss:=inZ m) (ts:=inZ m') (base:=B) (by rw [YI9,YI9];exact hlen) hg hw (by rw [YI9];exact hnc) hcap hsz;rw [JX9,YI9] at h1;unfold OwI;rw [hlen];exact h1
theorem QB6:(Tryz.prog.info? 3).map (λ i=>(i.zero,i.size,i.bytes))=some (some (.int .i64 0),1,8):=by kernel_rfl
theorem K07 {w:World} {B:Nat} {v:Value} {m:List Nat} {ops:Array Oper} {rest:List Oper} {o:Oper} {a:Act} {Q:Exit->Act->World->Prop} (hgd:o.guard=none) (s x:Operand)
 (ho:o.op= .call {callee:= .builtin .append,args:=#[s,x],argTypes:=#[41,41]})
 (h:OwI w B v m) (hs:a.eval s=v) (y:Nat) (hx:a.eval x= .slice (some ⟨w.heap.size,0,none⟩) 1 1) (hlen:m.length<=1000000) (hB:B<=w.heap.size)
 (hK:∀ A c w',OwI w' B (.slice A (m.length+1) c) (m++ [y])->Below B w w'->wpList Tryz.prog ops Q rest (a.put o.dst (.slice A (m.length+1) c)) w'):
 wpList Tryz.prog ops Q (o::rest) a (w.alloc (.cells #[.int .i64 (y:Int)] 3)):=by
 obtain⟨i0,hi0,hz0,hz1,hz2⟩:=info_parts QB6
 refine zM8 (P:=Tryz.prog) (Q:=Q) (rest:=rest) (ops:=ops) hgd s x ho Tryz.underlying41 hi0 hz0 hz1 hz2 rfl (by decide) h hs [.int .i64 (y:Int)] 1 1 hx rfl (by
  intro u hu;simp only [List.mem_cons,List.not_mem_nil,or_false] at hu;rcases hu with rfl;rfl) (by unfold maxLen;omega) (by omega) hB λ v' w' h4 h5=> ?_
 have e:inC m++ [.int .i64 (y:Int)]=inC (m++ [y]):=by rw [Jv6];rfl
 rw [e] at h4;rcases h4.2 with⟨_,h0⟩|⟨g,cap,cur,e1,_⟩
 . omega
 . subst e1;refine hK _ _ w' ?_ (h5.below hB λ g e=>Kw5 h g e);unfold OwI;rw [List.length_append,List.length_singleton];exact h4
structure Ez (b0 H gm gk g ga N c:Nat) (D:List (Nat×Nat×Nat)) (aw:List Nat) (m:Nat) (EN:Nat->List Nat) (EV:Nat->Value) (wr:World):Prop where
 mb:Blk wr gm 188 #[.slice (some ⟨g,0,none⟩) N c,.map (some gk),.slice (some ⟨ga,0,none⟩) aw.length aw.length]
 nb:∃ CS,Blk wr g 165 CS/\∀ k,k<N->CS[k*4]? =some (.int .u8 ((D.getD k (0,0,0)).1:Int))/\CS[k*4+1]? =some (.int .i64 ((D.getD k (0,0,0)).2.1:Int))/\CS[k*4+2]? =some (.int .i64 ((D.getD k (0,0,0)).2.2:Int))/\CS[k*4+3]? =some (EV k)
 ba:Blk wr ga 3 (atV aw).toArray
 en:∀ k,k<m->OwI wr b0 (EV k) (EN k)/\∀ x,(EV k).ownBlock=some x->x<H/\x≠g
 ne:gm≠g/\ga≠g
 lo:b0<=gm/\b0<=g/\b0<=ga
 hi:gm<H/\g<H/\ga<H/\H<=wr.heap.size
section
variable {b0 H gm gk g ga N c m:Nat} {D:List (Nat×Nat×Nat)} {aw:List Nat} {EN:Nat->List Nat} {EV:Nat->Value} {wr wr':World}
theorem Ez.step (h:Ez b0 H gm gk g ga N c D aw m EN EV wr) (hb:Below H wr wr'):Ez b0 H gm gk g ga N c D aw m EN EV wr':=by
 obtain⟨h1,h2,h3,h4⟩:=h.hi;obtain⟨CS,hC,hd⟩:=h.nb;refine⟨Blk.below h.mb hb h1,⟨CS,Blk.below hC hb h2,hd⟩,Blk.below h.ba hb h3,λ k hk=> ?_,h.ne,h.lo,⟨h1,h2,h3,Nat.le_trans h4 hb.size⟩⟩;obtain⟨o1,o2⟩:=h.en k hk;refine⟨?_,o2⟩;rcases o1.2 with e|⟨x,cap,cur,e,hx,hw,r⟩
 . exact⟨o1.1,.inl e⟩
 . exact⟨o1.1,.inr ⟨x,cap,cur,e,hx,(hb.block x (o2 x (by rw [e];rfl)).1).trans hw,r⟩⟩
theorem Ez.up (h:Ez b0 H gm gk g ga N c D aw m EN EV wr) {H':Nat} (h1:H<=H') (h2:H'<=wr.heap.size):Ez b0 H' gm gk g ga N c D aw m EN EV wr:=by
 obtain⟨k1,k2,k3,k4⟩:=h.hi;exact⟨h.mb,h.nb,h.ba,λ k hk=>⟨(h.en k hk).1,λ x hx=>⟨Nat.lt_of_lt_of_le ((h.en k hk).2 x hx).1 h1,((h.en k hk).2 x hx).2⟩⟩,h.ne,h.lo,⟨by omega,by omega,by omega,h2⟩⟩
theorem Ez.weak (h:Ez b0 H gm gk g ga N c D aw m EN EV wr) {m':Nat} (h1:m'<=m):Ez b0 H gm gk g ga N c D aw m' EN EV wr:=⟨h.mb,h.nb,h.ba,λ k hk=>h.en k (by omega),h.ne,h.lo,h.hi⟩
theorem addN (g i:Nat):(⟨g,0,none⟩:Addr).add (i*4)=⟨g,i*4,none⟩:=by
 by_cases h:i=0
 . subst h;rfl
 . have:i*4≠0:=(by omega);simp [Addr.add,this]
theorem Ez.node (h:Ez b0 H gm gk g ga N c D aw m EN EV wr) {k:Nat} (hk:k<N):wr.cell? ⟨g,k*4,none⟩=some (.int .u8 ((D.getD k (0,0,0)).1:Int))/\wr.cell? ⟨g,k*4+1,none⟩=some (.int .i64 ((D.getD k (0,0,0)).2.1:Int))/\wr.cell? ⟨g,k*4+2,none⟩=some (.int .i64 ((D.getD k (0,0,0)).2.2:Int))/\wr.cell? ⟨g,k*4+3,none⟩=some (EV k)/\wr.frozen? ⟨g,k*4+3,none⟩=false:=by
 obtain⟨CS,hC,hd⟩:=h.nb;obtain⟨d0,d1,d2,d3⟩:=hd k hk;exact⟨(hC.cell _).trans d0,(hC.cell _).trans d1,(hC.cell _).trans d2,(hC.cell _).trans d3,hC.frozen _⟩
theorem Ez.atw (h:Ez b0 H gm gk g ga N c D aw m EN EV wr) {i:Nat} (hi:i<aw.length):wr.cell? ((⟨ga,0,none⟩:Addr).add i)=some (.int .i64 (aw[i]:Int))/\wr.cell? ⟨ga,i,none⟩=some (.int .i64 (aw[i]:Int)):=by
 have e1:(⟨ga,0,none⟩:Addr).add i=⟨ga,i,none⟩:=by
  by_cases h:i=0
  . subst h;rfl
  . simp [Addr.add,h]
 have h1:wr.cell? ⟨ga,i,none⟩=some (.int .i64 (aw[i]:Int)):=by
  rw [h.ba.cell i];unfold atV;simp [List.getElem?_eq_getElem hi]
 rw [e1];exact⟨h1,h1⟩
theorem Ez.put (h:Ez b0 H gm gk g ga N c D aw m EN EV wr) {i:Nat} (hm:m<=i) (v:Value):Ez b0 H gm gk g ga N c D aw m EN (λ k=>if k=i then v else EV k) (wr.setCell ⟨g,i*4+3,none⟩ v):=by
 obtain⟨CS,hC,hd⟩:=h.nb;obtain⟨n1,n2⟩:=h.ne;refine⟨Blk.far h.mb (by dsimp only;omega) _,⟨_,hC.set_ _ _,λ k hk=> ?_⟩,Blk.far h.ba (by dsimp only;omega) _,λ k hk=> ?_,h.ne,h.lo,⟨h.hi.1,h.hi.2.1,h.hi.2.2.1,by have:=h.hi.2.2.2;simpa [World.setCell] using this⟩⟩
 . obtain⟨d0,d1,d2,d3⟩:=hd k hk;refine⟨?_,?_,?_,?_⟩
   . rw [Array.getElem?_setIfInBounds_ne (by omega)];exact d0
   . rw [Array.getElem?_setIfInBounds_ne (by omega)];exact d1
   . rw [Array.getElem?_setIfInBounds_ne (by omega)];exact d2
   . by_cases e:k=i
     . subst e;rw [Array.getElem?_setIfInBounds_self_of_lt (Array.getElem?_eq_some_iff.1 d3).1,if_pos rfl]
     . rw [Array.getElem?_setIfInBounds_ne (by omega),if_neg e];exact d3
 . obtain⟨o1,o2⟩:=h.en k hk;rw [if_neg (show ¬k=i by omega)];exact⟨o1.set (λ e=>(o2 _ e).2 rfl) _,o2⟩
theorem Ez.next (h:Ez b0 H gm gk g ga N c D aw m EN EV wr) {v:Value} {xs:List Nat} {H':Nat} (hv:OwI wr H v xs) (he:EV m=v) (hx:EN m=xs) (h1:H<=H') (h2:H'=wr.heap.size):Ez b0 H' gm gk g ga N c D aw (m+1) EN EV wr:=by
 have hu:=h.up (H':=H') h1 (by omega);refine⟨hu.mb,hu.nb,hu.ba,λ k hk=> ?_,hu.ne,hu.lo,hu.hi⟩;by_cases e:k=m
 . subst e;rw [he,hx];refine⟨hv.more (by have:=h.hi;have:=h.lo;omega),λ x hx=> ?_⟩;have h3:=World.ownsRow.lt hv x hx;have:=h.hi;exact⟨by omega,by omega⟩
 . exact hu.en k (by omega)
end
def TreeM (w:World) (B:Nat) (A:Option Addr) (D:List (Nat×Nat×Nat)) (EN:Nat->List Nat):Prop:=∀ k,k<D.length->∃ g,A=some ⟨g,0,none⟩/\g<B/\w.cell? ⟨g,k*4,none⟩=some (.int .u8 ((D.getD k (0,0,0)).1:Int))/\w.cell? ⟨g,k*4+1,none⟩=some (.int .i64 ((D.getD k (0,0,0)).2.1:Int))/\w.cell? ⟨g,k*4+2,none⟩=some (.int .i64 ((D.getD k (0,0,0)).2.2:Int))/\
 ∃ E ce,w.cell? ⟨g,k*4+3,none⟩=some (.slice E (EN k).length ce)/\Reads w B 1 E (EN k).length (inC (EN k))
theorem TreeM.below {w w':World} {B:Nat} {A:Option Addr} {D:List (Nat×Nat×Nat)} {EN:Nat->List Nat} (h:TreeM w B A D EN) (hb:Below B w w'):TreeM w' B A D EN:=λ k hk=>by
 obtain⟨g,e,hg,c0,c1,c2,E,ce,c3,hr⟩:=h k hk;have key:∀ j,w'.cell? ⟨g,j,none⟩=w.cell? ⟨g,j,none⟩:=λ j=>hb.cell (p:=⟨g,j,none⟩) hg
 exact⟨g,e,hg,by rw [key];exact c0,by rw [key];exact c1,by rw [key];exact c2,E,ce,by rw [key];exact c3,hr.below hb⟩
theorem Ez.tree {b0 H gm gk g ga N c m:Nat} {D:List (Nat×Nat×Nat)} {aw:List Nat} {EN:Nat->List Nat} {EV:Nat->Value} {wr:World} (h:Ez b0 H gm gk g ga N c D aw m EN EV wr) (hN:D.length=N) (hm:N<=m):TreeM wr wr.heap.size (some ⟨g,0,none⟩) D EN:=λ k hk=>by
 obtain⟨c0,c1,c2,c3,_⟩:=h.node (k:=k) (by omega);obtain⟨o1,o2⟩:=h.en k (by omega);obtain⟨E,ce,e⟩:=o1.form;refine⟨g,rfl,by have:=h.hi;omega,c0,c1,c2,E,ce,by rw [c3,e],?_⟩;unfold OwI at o1;rw [e] at o1;exact Reads.of_own o1
end
theorem kf9 (L:List (List UInt8)) (n:Nat):(tx L n).length<=(tx L (n+1)).length:=by
 show (tx L n).length<=(tx L n++lv L n (tx L n)).length;rw [List.length_append];omega
theorem QF5 (L:List (List UInt8)) {n m:Nat} (h:n<=m):(tx L n).length<=(tx L m).length:=by
 induction h with
 |refl=>exact Nat.le_refl _
 |step _ ih=>exact Nat.le_trans ih (kf9 L _)
theorem Z03 (L:List (List UInt8)):kd (tx L 0)=λ _ _=>none:=by
 funext u b
 unfold kd;rw [if_neg];rintro⟨_,_,_,_,h⟩;have h1:etx (tx L 0) (u.toNat,b.toNat)= []:=List.mem_singleton.1 h;unfold etx at h1;have h2:=congrArg List.length h1;rw [List.length_append] at h2;simp at h2
theorem kD6 (L:List (List UInt8)):nds (tx L 0)= [(0,0,0)]:=by
 show [ndI [[]] []]= [(0,0,0)];unfold ndI;rw [yl4];rfl
theorem QQ9 (vs:List ByteArray):awL vs 0=List.replicate vs.length 0:=by
 unfold awL;refine List.eq_replicate_iff.2 ⟨List.length_map _,λ x hx=> ?_⟩;obtain⟨v,_,rfl⟩:=List.mem_map.1 hx;rfl
structure Right (vs:List ByteArray):Prop where
 few:vs.length<=30
 pos:0<vs.length
 sz:∀ v∈vs,0<v.size/\v.size<=40
theorem JY5 {vs:List ByteArray} (h:yR7 vs=0):Right vs:=by
 by_cases h1:30<vs.length\/vs.any yZ9=true
 . rw [Kc8 h1] at h;omega
 . by_cases h2:vs.length=0\/vs.any Jd3=true
   . rw [QY4 h1 h2] at h;omega
   . refine⟨by omega,by omega,λ v hv=>⟨?_,?_⟩⟩
     . refine Nat.pos_of_ne_zero λ e=>h2 (.inr (List.any_eq_true.2 ⟨v,hv,?_⟩))
       unfold Jd3;exact decide_eq_true e
     . refine Nat.le_of_not_lt λ e=>h1 (.inr (List.any_eq_true.2 ⟨v,hv,?_⟩))
       unfold yZ9;exact decide_eq_true e
theorem Right.mem {vs:List ByteArray} (h:Right vs):∀ w∈wsL vs,w∈tx (wsL vs) 40:=λ w hw=>by
 obtain⟨v,hv,rfl⟩:=List.mem_map.1 hw;exact(YY6 _ _ _).2 ⟨(h.sz v hv).2,.inr (ke1.2 ⟨_,hw,List.prefix_refl _⟩)⟩
theorem Right.ne {vs:List ByteArray} (h:Right vs):∀ w∈wsL vs,w≠ []:=λ w hw=>by
 obtain⟨v,hv,rfl⟩:=List.mem_map.1 hw;intro e;have h1:v.data.toList.length=0:=by rw [e];rfl
 have h2:=(h.sz v hv).1;have h3:v.size=v.data.toList.length:=rfl;omega
theorem k55 (T:List (List UInt8)):(nds T).length=T.length:=List.length_map _
theorem qD1 {T:List (List UInt8)} {k:Nat} (hk:k<T.length):(nds T).getD k (0,0,0)=ndI T (T.getD k []):=by
 rw [gD _ (by rw [k55];exact hk),gD _ hk];unfold nds;rw [List.getElem_map]
theorem Jb6 {T:List (List UInt8)} {k:Nat} (hk:k<T.length):((nds T).getD k (0,0,0)).2.2=flI T (T.getD k []):=by rw [qD1 hk];rfl
def owP (aw:List Nat) (i k:Nat):List Nat:=if i=0 then [] else (List.range k).filter λ q=>decide (aw.getD q 0=i)
theorem Xh5 (aw:List Nat) (i:Nat):owP aw i 0= []:=by unfold owP;split<;>rfl
theorem qN4 {aw:List Nat} {i k:Nat} (h0:i≠0) (h:aw.getD k 0=i):owP aw i (k+1)=owP aw i k++ [k]:=by
 unfold owP;rw [if_neg h0,if_neg h0,List.range_succ,List.filter_append];congr 1;rw [List.filter_cons,if_pos (decide_eq_true h)];rfl
theorem Qk5 {aw:List Nat} {i k:Nat} (h:i=0\/aw.getD k 0≠i):owP aw i (k+1)=owP aw i k:=by
 unfold owP;by_cases h0:i=0
 . rw [if_pos h0,if_pos h0]
 . rw [if_neg h0,if_neg h0,List.range_succ,List.filter_append,List.filter_cons,if_neg (by rw [decide_eq_true_eq];exact h.resolve_left h0)];exact List.append_nil _
theorem z61 (aw:List Nat) (i k:Nat):(owP aw i k).length<=k:=by
 unfold owP;split
 . exact Nat.zero_le _
 . exact Nat.le_trans (List.length_filter_le _ _) (by rw [List.length_range];exact Nat.le_refl _)
theorem jH4 (L:List (List UInt8)) (t:List UInt8):(enI L t).length<=L.length:=Nat.le_trans (List.length_filter_le _ _) (by rw [List.length_range];exact Nat.le_refl _)
def enW (vs:List ByteArray) (k:Nat):List Nat:=enI (wsL vs) ((tx (wsL vs) 40).getD k [])
theorem z85 (vs:List ByteArray) (k:Nat):(enW vs k).length<=vs.length:=by
 have:=jH4 (wsL vs) ((tx (wsL vs) 40).getD k []);rw [Zh9] at this;exact this
theorem Zp1 {vs:List ByteArray} (h:Right vs):enW vs 0= []:=by
 unfold enW;rw [(Gd.tx (wsL vs) 40).he];exact J06 h.ne
theorem Q93 {vs:List ByteArray} (h:Right vs) {i:Nat} (h0:i≠0):owP (awL vs 40) i vs.length=owI (wsL vs) (tx (wsL vs) 40) i:=by
 unfold owP owI;rw [if_neg h0,Zh9];refine List.filter_congr λ q hq=> ?_
 have hq2:q<vs.length:=List.mem_range.1 hq
 have e1:(awL vs 40).getD q 0=ix (tx (wsL vs) 40) ((wsL vs).getD q []):=by
  rw [gD 0 (by rw [xP8];exact hq2),Z60 hq2,gD [] (by rw [Zh9];exact hq2),qH5 hq2];rw [List.take_of_length_le];exact(h.sz _ (List.getElem_mem hq2)).2
 rw [e1]
theorem xc3 {vs:List ByteArray} (h:Right vs) {i:Nat} (hi:i<(tx (wsL vs) 40).length):
 (enW vs ((nds (tx (wsL vs) 40)).getD i (0,0,0)).2.2++owP (awL vs 40) i vs.length).Nodup/\(enW vs i).Pairwise (· < ·)/\
 (∀ x,x∈enW vs ((nds (tx (wsL vs) 40)).getD i (0,0,0)).2.2++owP (awL vs 40) i vs.length<->x∈enW vs i):=by
 have hg:=Gd.tx (wsL vs) 40;have hfl:((nds (tx (wsL vs) 40)).getD i (0,0,0)).2.2=flI (tx (wsL vs) 40) ((tx (wsL vs) 40).getD i []):=Jb6 hi;rw [hfl];have hs:=kK6 (wsL vs) ((tx (wsL vs) 40).getD i []);by_cases h0:i=0
 . subst h0;have e1:owP (awL vs 40) 0 vs.length= []:=if_pos rfl;rw [e1,List.append_nil,hg.he,yl4,Zp1 h];exact⟨List.nodup_nil,List.Pairwise.nil,λ x=>Iff.rfl⟩
 . rw [Q93 h h0];refine⟨?_,hs,λ x=> ?_⟩
   . refine List.nodup_append.2 ⟨?_,?_,λ a ha b hb e=> ?_⟩
     . exact List.Pairwise.imp (λ h=>Nat.ne_of_lt h) (kK6 _ _)
     . exact List.Pairwise.imp (λ h=>Nat.ne_of_lt h) (jW0 _ _ _)
     . subst e;exact jM9 hg h.mem h.ne (by omega) hi ha hb
   . rw [List.mem_append];exact(jw1 hg h.mem h.ne (by omega) hi x).symm
theorem ZB4 {vs:List ByteArray} {i:Nat} (hi:i<(tx (wsL vs) 40).length):((nds (tx (wsL vs) 40)).getD i (0,0,0)).2.2<(tx (wsL vs) 40).length/\(0<i->((nds (tx (wsL vs) 40)).getD i (0,0,0)).2.2<i)/\(i=0->((nds (tx (wsL vs) 40)).getD i (0,0,0)).2.2=0):=by
 have hg:=Gd.tx (wsL vs) 40;have hfl:((nds (tx (wsL vs) 40)).getD i (0,0,0)).2.2=flI (tx (wsL vs) 40) ((tx (wsL vs) 40).getD i []):=Jb6 hi;rw [hfl];by_cases h0:i=0
 . subst h0;rw [hg.he,yl4];exact⟨hg.po,λ h=>absurd h (Nat.lt_irrefl _),λ _=>rfl⟩
 . have hne:(tx (wsL vs) 40).getD i []≠ []:=λ e=>by
    have:=q75 hg.nd hi hg.po (by rw [e,hg.he]);omega
   obtain⟨k1,k2,_⟩:=hg.fl hne;refine⟨k1,λ _=>Nat.lt_of_not_le λ hle=> ?_,λ e=>absurd e h0⟩;have h1:=hg.le hle k1;have h2:=k2.1;omega
theorem Mk.ends {b0 gm gk ga nK:Nat} {nv:Value} {D:List (Nat×Nat×Nat)} {F:Int->Int->Option Nat} {aw:List Nat} {wr:World} (h:Mk b0 gm gk ga nv D nK F aw wr) (hD:0<D.length) (EN:Nat->List Nat) (h0:EN 0= []):
 ∃ g c,nv= .slice (some ⟨g,0,none⟩) D.length c/\D.length<=c/\Ez b0 wr.heap.size gm gk g ga D.length c D aw 1 EN (λ _=> .slice none 0 0) wr:=by
 rcases h.ow.2 with⟨_,e⟩|⟨g,cap,cur,e,hg,hw,hnc,hcap,hsz,htk⟩
 . omega
 . have hgl:g<wr.heap.size:=(Array.getElem?_eq_some_iff.1 hw).1;obtain⟨k1,k2,k3⟩:=h.nn;have e1:g≠gm:=λ x=>k1 (by rw [e,x];rfl)
   have e3:g≠ga:=λ x=>k3 (by rw [e,x];rfl)
   have hmb:=h.mb;rw [e] at hmb;refine⟨g,cap,e,hnc,hmb,⟨cur,hw,λ k hk=> ?_⟩,h.ba,λ k hk=> ?_,⟨λ x=>e1 x.symm,λ x=>e3 x.symm⟩,⟨h.lo.1,hg,h.lo.2.2⟩,⟨Blk.lt h.mb,hgl,Blk.lt h.ba,Nat.le_refl _⟩⟩
   . have key:∀ j,j<4->cur[k*4+j]? =(ndC (D.getD k (0,0,0)))[j]? :=λ j hj=>by
      have h1:=YC5 hk hj;rw [<-htk,List.getElem?_take_of_lt (by omega),Array.getElem?_toList] at h1;rw [h1,gD _ hk]
     exact⟨key 0 (by omega),key 1 (by omega),key 2 (by omega),key 3 (by omega)⟩
   . obtain rfl:k=0:=(by omega);rw [h0];exact⟨OwI.nil _ _,λ x hx=>by cases hx⟩
end Go.Proofs.YtngepacmgabmaaaGreatDoor
