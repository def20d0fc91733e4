/- Ends of nodes: rows of ints of the call'; Plain: what phrase.Make's loops give; th .. -/
import Derived.Sort.OwnSortedInts
import Derived.Test.YtngepacmgabmaaaGreatDoorGaj
import Derived.Laws.BitsAllLaws
namespace Go.Proofs.YtngepacmgabmaaaGreatDoor
open Go.RowKit
set_option linter.unusedVariables false
set_option linter.unusedSimpArgs false
section
open Go.Shelf Go.Lib Go.Sort
def inC (m:List Nat):List Value:=m.map fun(k:Nat)=>Value.int .i64 (k:Int)
def inZ (m:List Nat):List Int:=m.map fun(k:Nat)=>(k:Int)
theorem YI9 (m:List Nat):(inZ m).length=m.length:=List.length_map _
theorem JX9 (m:List Nat):(inZ m).map (Value.int .i64)=inC m:=by unfold inC inZ;rw [List.map_map];rfl
theorem jN4 {m:List Nat} {i:Nat} (h:i<m.length):(inC m)[i]? =some (.int .i64 (m[i]:Int)):=by
 unfold inC;rw [List.getElem?_map,List.getElem?_eq_getElem h];rfl
theorem Jv6 (m l:List Nat):inC (m++l)=inC m++inC l:=List.map_append
def OwI (w:World) (B:Nat) (v:Value) (m:List Nat):Prop:=w.ownsRow B 3 1 v m.length (inC m)
theorem OwI.nil (w:World) (B:Nat):OwI w B (.slice none 0 0) []:=World.ownsRow_nil _ _ _ _
theorem OwI.step {w w':World} {B:Nat} {v:Value} {m:List Nat} (h:OwI w B v m) (hb:Below w.heap.size w w'):OwI w' B v m:=
 World.ownsRow.kept (row:=none) h ⟨hb.os,hb.tape,hb.output,hb.size,λ k hk _=>hb.block k hk⟩ (by
  rcases h.2 with⟨e,_⟩|⟨g,cap,cur,e,_⟩
  . rw [e];exact .inl rfl
  . rw [e];exact .inr (by simp [Value.ownBlock]))
theorem OwI.form {w:World} {B:Nat} {v:Value} {m:List Nat} (h:OwI w B v m):∃ A c,v= .slice A m.length c:=by
 rcases h.2 with⟨e,h0⟩|⟨g,cap,cur,e,_⟩
 . exact⟨none,0,by rw [e,h0]⟩
 . exact⟨_,_,e⟩
theorem OwI.more {w:World} {B B':Nat} {v:Value} {m:List Nat} (h:OwI w B v m) (hB:B'<=B):OwI w B' v m:=by
 refine⟨h.1,?_⟩;rcases h.2 with e|⟨g,cap,cur,e,hg,r⟩
 . exact .inl e
 . exact .inr ⟨g,cap,cur,e,Nat.le_trans hB hg,r⟩
theorem OwI.set {w:World} {B:Nat} {v:Value} {m:List Nat} (h:OwI w B v m) {p:Addr} (hp:v.ownBlock≠some p.block) (u:Value):OwI (w.setCell p u) B v m:=
 World.ownsRow.kept (row:=some p.block) h ⟨rfl,rfl,rfl,by simp [World.setCell],λ k hk hk2=>Below.heap_setCell w p u k (λ e=>hk2 (by rw [e]))⟩ (.inr hp)
theorem zz1 {w:World} {B:Nat} {v:Value} {m:List Nat} (h:OwI w B v m) (hm:m.length<=1000):
 Calls Tryz.prog 139 #[v] w λ e w'=>∃ v',e= .returned v'/\OwI w' w.heap.size v' m/\Below w.heap.size w w':=by
 have hc:∀ g,v.ownBlock=some g->∀ j u,(inC m)[j]? =some u->w.cell? ((⟨g,0,none⟩:Addr).add j)=some u:=λ g hg=>World.ownsRow.cells h hg
 rcases h.2 with⟨rfl,h0⟩|⟨g,cap,cur,rfl,_⟩
 . have e0:m= []:=List.eq_nil_of_length_eq_zero h0;subst e0;refine(Tryz.slices_Clone_int_nil 0 0 w).mono ?_;rintro e w' ⟨rfl,rfl⟩;exact⟨_,rfl,OwI.nil _ _,Below.refl _ _⟩
 . by_cases h0:m.length=0
   . have e0:m= []:=List.eq_nil_of_length_eq_zero h0;subst e0;refine(Tryz.slices_Clone_int_zero ⟨g,0,none⟩ cap w).mono ?_;rintro e w' ⟨v',rfl,h1,_,h2⟩;exact⟨_,rfl,h1,h2⟩
   . have h1:=hc g rfl;refine(Tryz.slices_Clone_int g 0 m.length cap (inZ m) w (by rw [YI9];exact Nat.le_refl _) (by omega) λ j hj=> ?_).mono ?_
     . rw [YI9] at hj;have h2:=h1 j _ (jN4 hj)
       have e1:(⟨g,0,none⟩:Addr).add j=⟨g,0+j,none⟩:=by
        by_cases h:j=0
        . subst h;rfl
        . simp [Addr.add,h]
       rw [e1] at h2;rw [h2,gD 0 (by rw [YI9];exact hj)];unfold inZ;rw [List.getElem_map]
     . rintro e w' ⟨v',rfl,h2,_,h3⟩;refine⟨_,rfl,?_,h3⟩;rw [List.take_of_length_le (by rw [YI9];exact Nat.le_refl _),JX9] at h2;exact h2
theorem YN2 {w:World} {B:Nat} {v:Value} {m m':List Nat} (h:OwI w B v m) (hm:m.length<=1000) (hB:B<=w.heap.size) (hn:m.Nodup) (hs:m'.Pairwise (· < ·)) (hmm:∀ x,x∈m<->x∈m'):
 Calls Tryz.prog 140 #[v] w λ e w'=>e= .returned (.tuple #[])/\OwI w' B v m'/\Below B w w':=by
 have hsrt:(inZ m).mergeSort (λ x y=>decide (x<=y))=inZ m':=by
  refine jU8 ?_ ?_ λ x=> ?_
  . exact List.Pairwise.map _ (λ a b hab e=>hab (by omega)) hn
  . exact List.Pairwise.map _ (λ a b hab=>by omega) hs
  . unfold inZ;rw [List.mem_map,List.mem_map];exact⟨fun⟨a,h1,h2⟩=>⟨a,(hmm a).1 h1,h2⟩,fun⟨a,h1,h2⟩=>⟨a,(hmm a).2 h1,h2⟩⟩
 have hlen:m'.length=m.length:=by
  have h1:=congrArg List.length hsrt;rw [List.length_mergeSort,YI9,YI9] at h1;exact h1.symm
 by_cases h0:m.length=0
 . obtain⟨A,c,rfl⟩:=h.form;have e0:m= []:=List.eq_nil_of_length_eq_zero h0;have e1:m'= []:=List.eq_nil_of_length_eq_zero (by rw [hlen];exact h0);subst e0 e1;refine(Tryz.slices_Sort_int_none A c w).mono ?_;rintro e w' ⟨rfl,rfl⟩;exact⟨rfl,h,Below.refl _ _⟩
 . rcases h.2 with⟨_,e0⟩|⟨g,cap,cur,rfl,hg,hw,hnc,hcap,hsz,htk⟩
   . exact absurd e0 h0
   . have hgl:g<w.heap.size:=(Array.getElem?_eq_some_iff.1 hw).1;have hH:=holds_of_blockI (ss:=inZ m) hw (by rw [YI9,JX9];rw [Nat.mul_one] at htk;exact htk);have hcon:=Tryz.slices_Sort_int g 0 cap (inZ m) w hH hgl (by rw [YI9];omega);rw [YI9] at hcon;refine hcon.mono ?_;rintro e w' ⟨rfl,n,os,rfl⟩;rw [hsrt];refine⟨rfl,?_,(Below.refl _ _).grown (grownBy_sortedI (inZ m').toArray) hB λ k e=>by injection e with e;omega⟩;have h1:=ownsRow_sortedI (n:=n) (os:=os) (ss:=inZ m) (ts:=inZ m') (base:=B) (by rw [YI9,YI9];exact hlen) hg hw (by rw [YI9];exact hnc) hcap hsz;rw [JX9,YI9] at h1;unfold OwI;rw [hlen];exact h1
theorem QB6:(Tryz.prog.info? 3).map (λ i=>(i.zero,i.size,i.bytes))=some (some (.int .i64 0),1,8):=by kernel_rfl
theorem K07 {w:World} {B:Nat} {v:Value} {m:List Nat} {ops:Array Oper} {rest:List Oper} {o:Oper} {a:Act} {Q:Exit->Act->World->Prop} (hgd:o.guard=none) (s x:Operand)
 (ho:o.op= .call {callee:= .builtin .append,args:=#[s,x],argTypes:=#[41,41]})
 (h:OwI w B v m) (hs:a.eval s=v) (y:Nat) (hx:a.eval x= .slice (some ⟨w.heap.size,0,none⟩) 1 1) (hlen:m.length<=1000000) (hB:B<=w.heap.size)
 (hK:∀ A c w',OwI w' B (.slice A (m.length+1) c) (m++ [y])->Below B w w'->wpList Tryz.prog ops Q rest (a.put o.dst (.slice A (m.length+1) c)) w'):
 wpList Tryz.prog ops Q (o::rest) a (w.alloc (.cells #[.int .i64 (y:Int)] 3)):=by
 obtain⟨i0,hi0,hz0,hz1,hz2⟩:=info_parts QB6
 refine zM8 (P:=Tryz.prog) (Q:=Q) (rest:=rest) (ops:=ops) hgd s x ho Tryz.underlying41 hi0 hz0 hz1 hz2 rfl (by decide) h hs [.int .i64 (y:Int)] 1 1 hx rfl (by
  intro u hu;simp only [List.mem_cons,List.not_mem_nil,or_false] at hu;rcases hu with rfl;rfl) (by unfold maxLen;omega) (by omega) hB λ v' w' h4 h5=> ?_
 have e:inC m++ [.int .i64 (y:Int)]=inC (m++ [y]):=by rw [Jv6];rfl
 rw [e] at h4;rcases h4.2 with⟨_,h0⟩|⟨g,cap,cur,e1,_⟩
 . omega
 . subst e1;refine hK _ _ w' ?_ (h5.below hB λ g e=>Kw5 h g e);unfold OwI;rw [List.length_append,List.length_singleton];exact h4
structure Ez (b0 H gm gk g ga N c:Nat) (D:List (Nat×Nat×Nat)) (aw:List Nat) (m:Nat) (EN:Nat->List Nat) (EV:Nat->Value) (wr:World):Prop where
 mb:Blk wr gm 188 #[.slice (some ⟨g,0,none⟩) N c,.map (some gk),.slice (some ⟨ga,0,none⟩) aw.length aw.length]
 nb:∃ CS,Blk wr g 165 CS/\∀ k,k<N->CS[k*4]? =some (.int .u8 ((D.getD k (0,0,0)).1:Int))/\CS[k*4+1]? =some (.int .i64 ((D.getD k (0,0,0)).2.1:Int))/\CS[k*4+2]? =some (.int .i64 ((D.getD k (0,0,0)).2.2:Int))/\CS[k*4+3]? =some (EV k)
 ba:Blk wr ga 3 (atV aw).toArray
 en:∀ k,k<m->OwI wr b0 (EV k) (EN k)/\∀ x,(EV k).ownBlock=some x->x<H/\x≠g
 ne:gm≠g/\ga≠g
 lo:b0<=gm/\b0<=g/\b0<=ga
 hi:gm<H/\g<H/\ga<H/\H<=wr.heap.size
section
variable {b0 H gm gk g ga N c m:Nat} {D:List (Nat×Nat×Nat)} {aw:List Nat} {EN:Nat->List Nat} {EV:Nat->Value} {wr wr':World}
theorem Ez.step (h:Ez b0 H gm gk g ga N c D aw m EN EV wr) (hb:Below H wr wr'):Ez b0 H gm gk g ga N c D aw m EN EV wr':=by
 obtain⟨h1,h2,h3,h4⟩:=h.hi;obtain⟨CS,hC,hd⟩:=h.nb;refine⟨Blk.below h.mb hb h1,⟨CS,Blk.below hC hb h2,hd⟩,Blk.below h.ba hb h3,λ k hk=> ?_,h.ne,h.lo,⟨h1,h2,h3,Nat.le_trans h4 hb.size⟩⟩;obtain⟨o1,o2⟩:=h.en k hk;refine⟨?_,o2⟩;rcases o1.2 with e|⟨x,cap,cur,e,hx,hw,r⟩
 . exact⟨o1.1,.inl e⟩
 . exact⟨o1.1,.inr ⟨x,cap,cur,e,hx,(hb.block x (o2 x (by rw [e];rfl)).1).trans hw,r⟩⟩
theorem Ez.up (h:Ez b0 H gm gk g ga N c D aw m EN EV wr) {H':Nat} (h1:H<=H') (h2:H'<=wr.heap.size):Ez b0 H' gm gk g ga N c D aw m EN EV wr:=by
 obtain⟨k1,k2,k3,k4⟩:=h.hi;exact⟨h.mb,h.nb,h.ba,λ k hk=>⟨(h.en k hk).1,λ x hx=>⟨Nat.lt_of_lt_of_le ((h.en k hk).2 x hx).1 h1,((h.en k hk).2 x hx).2⟩⟩,h.ne,h.lo,⟨by omega,by omega,by omega,h2⟩⟩
theorem Ez.weak (h:Ez b0 H gm gk g ga N c D aw m EN EV wr) {m':Nat} (h1:m'<=m):Ez b0 H gm gk g ga N c D aw m' EN EV wr:=⟨h.mb,h.nb,h.ba,λ k hk=>h.en k (by omega),h.ne,h.lo,h.hi⟩
theorem addN (g i:Nat):(⟨g,0,none⟩:Addr).add (i*4)=⟨g,i*4,none⟩:=by
 by_cases h:i=0
 . subst h;rfl
 . have:i*4≠0:=(by omega);simp [Addr.add,this]
theorem Ez.node (h:Ez b0 H gm gk g ga N c D aw m EN EV wr) {k:Nat} (hk:k<N):wr.cell? ⟨g,k*4,none⟩=some (.int .u8 ((D.getD k (0,0,0)).1:Int))/\wr.cell? ⟨g,k*4+1,none⟩=some (.int .i64 ((D.getD k (0,0,0)).2.1:Int))/\wr.cell? ⟨g,k*4+2,none⟩=some (.int .i64 ((D.getD k (0,0,0)).2.2:Int))/\wr.cell? ⟨g,k*4+3,none⟩=some (EV k)/\wr.frozen? ⟨g,k*4+3,none⟩=false:=by
 obtain⟨CS,hC,hd⟩:=h.nb;obtain⟨d0,d1,d2,d3⟩:=hd k hk;exact⟨(hC.cell _).trans d0,(hC.cell _).trans d1,(hC.cell _).trans d2,(hC.cell _).trans d3,hC.frozen _⟩
theorem Ez.atw (h:Ez b0 H gm gk g ga N c D aw m EN EV wr) {i:Nat} (hi:i<aw.length):wr.cell? ((⟨ga,0,none⟩:Addr).add i)=some (.int .i64 (aw[i]:Int))/\wr.cell? ⟨ga,i,none⟩=some (.int .i64 (aw[i]:Int)):=by
 have e1:(⟨ga,0,none⟩:Addr).add i=⟨ga,i,none⟩:=by
  by_cases h:i=0
  . subst h;rfl
  . simp [Addr.add,h]
 have h1:wr.cell? ⟨ga,i,none⟩=some (.int .i64 (aw[i]:Int)):=by
  rw [h.ba.cell i];unfold atV;simp [List.getElem?_eq_getElem hi]
 rw [e1];exact⟨h1,h1⟩
theorem Ez.put (h:Ez b0 H gm gk g ga N c D aw m EN EV wr) {i:Nat} (hm:m<=i) (v:Value):Ez b0 H gm gk g ga N c D aw m EN (λ k=>if k=i then v else EV k) (wr.setCell ⟨g,i*4+3,none⟩ v):=by
 obtain⟨CS,hC,hd⟩:=h.nb;obtain⟨n1,n2⟩:=h.ne;refine⟨Blk.far h.mb (by dsimp only;omega) _,⟨_,hC.set_ _ _,λ k hk=> ?_⟩,Blk.far h.ba (by dsimp only;omega) _,λ k hk=> ?_,h.ne,h.lo,⟨h.hi.1,h.hi.2.1,h.hi.2.2.1,by have:=h.hi.2.2.2;simpa [World.setCell] using this⟩⟩
 . obtain⟨d0,d1,d2,d3⟩:=hd k hk;refine⟨?_,?_,?_,?_⟩
   . rw [Array.getElem?_setIfInBounds_ne (by omega)];exact d0
   . rw [Array.getElem?_setIfInBounds_ne (by omega)];exact d1
   . rw [Array.getElem?_setIfInBounds_ne (by omega)];exact d2
   . by_cases e:k=i
     . subst e;rw [Array.getElem?_setIfInBounds_self_of_lt (Array.getElem?_eq_some_iff.1 d3).1,if_pos rfl]
     . rw [Array.getElem?_setIfInBounds_ne (by omega),if_neg e];exact d3
 . obtain⟨o1,o2⟩:=h.en k hk;rw [if_neg (show ¬k=i by omega)];exact⟨o1.set (λ e=>(o2 _ e).2 rfl) _,o2⟩
theorem Ez.next (h:Ez b0 H gm gk g ga N c D aw m EN EV wr) {v:Value} {xs:List Nat} {H':Nat} (hv:OwI wr H v xs) (he:EV m=v) (hx:EN m=xs) (h1:H<=H') (h2:H'=wr.heap.size):Ez b0 H' gm gk g ga N c D aw (m+1) EN EV wr:=by
 have hu:=h.up (H':=H') h1 (by omega);refine⟨hu.mb,hu.nb,hu.ba,λ k hk=> ?_,hu.ne,hu.lo,hu.hi⟩;by_cases e:k=m
 . subst e;rw [he,hx];refine⟨hv.more (by have:=h.hi;have:=h.lo;omega),λ x hx=> ?_⟩;have h3:=World.ownsRow.lt hv x hx;have:=h.hi;exact⟨by omega,by omega⟩
 . exact hu.en k (by omega)
end
def TreeM (w:World) (B:Nat) (A:Option Addr) (D:List (Nat×Nat×Nat)) (EN:Nat->List Nat):Prop:=∀ k,k<D.length->∃ g,A=some ⟨g,0,none⟩/\g<B/\w.cell? ⟨g,k*4,none⟩=some (.int .u8 ((D.getD k (0,0,0)).1:Int))/\w.cell? ⟨g,k*4+1,none⟩=some (.int .i64 ((D.getD k (0,0,0)).2.1:Int))/\w.cell? ⟨g,k*4+2,none⟩=some (.int .i64 ((D.getD k (0,0,0)).2.2:Int))/\
 ∃ E ce,w.cell? ⟨g,k*4+3,none⟩=some (.slice E (EN k).length ce)/\Reads w B 1 E (EN k).length (inC (EN k))
theorem TreeM.below {w w':World} {B:Nat} {A:Option Addr} {D:List (Nat×Nat×Nat)} {EN:Nat->List Nat} (h:TreeM w B A D EN) (hb:Below B w w'):TreeM w' B A D EN:=λ k hk=>by
 obtain⟨g,e,hg,c0,c1,c2,E,ce,c3,hr⟩:=h k hk;have key:∀ j,w'.cell? ⟨g,j,none⟩=w.cell? ⟨g,j,none⟩:=λ j=>hb.cell (p:=⟨g,j,none⟩) hg
 exact⟨g,e,hg,by rw [key];exact c0,by rw [key];exact c1,by rw [key];exact c2,E,ce,by rw [key];exact c3,hr.below hb⟩
theorem Ez.tree {b0 H gm gk g ga N c m:Nat} {D:List (Nat×Nat×Nat)} {aw:List Nat} {EN:Nat->List Nat} {EV:Nat->Value} {wr:World} (h:Ez b0 H gm gk g ga N c D aw m EN EV wr) (hN:D.length=N) (hm:N<=m):TreeM wr wr.heap.size (some ⟨g,0,none⟩) D EN:=λ k hk=>by
 obtain⟨c0,c1,c2,c3,_⟩:=h.node (k:=k) (by omega);obtain⟨o1,o2⟩:=h.en k (by omega);obtain⟨E,ce,e⟩:=o1.form;refine⟨g,rfl,by have:=h.hi;omega,c0,c1,c2,E,ce,by rw [c3,e],?_⟩;unfold OwI at o1;rw [e] at o1;exact Reads.of_own o1
end
theorem kf9 (L:List (List UInt8)) (n:Nat):(tx L n).length<=(tx L (n+1)).length:=by
 show (tx L n).length<=(tx L n++lv L n (tx L n)).length;rw [List.length_append];omega
theorem QF5 (L:List (List UInt8)) {n m:Nat} (h:n<=m):(tx L n).length<=(tx L m).length:=by
 induction h with
 |refl=>exact Nat.le_refl _
 |step _ ih=>exact Nat.le_trans ih (kf9 L _)
theorem Z03 (L:List (List UInt8)):kd (tx L 0)=λ _ _=>none:=by
 funext u b
 unfold kd;rw [if_neg];rintro⟨_,_,_,_,h⟩;have h1:etx (tx L 0) (u.toNat,b.toNat)= []:=List.mem_singleton.1 h;unfold etx at h1;have h2:=congrArg List.length h1;rw [List.length_append] at h2;simp at h2
theorem kD6 (L:List (List UInt8)):nds (tx L 0)= [(0,0,0)]:=by
 show [ndI [[]] []]= [(0,0,0)];unfold ndI;rw [yl4];rfl
theorem QQ9 (vs:List ByteArray):awL vs 0=List.replicate vs.length 0:=by
 unfold awL;refine List.eq_replicate_iff.2 ⟨List.length_map _,λ x hx=> ?_⟩;obtain⟨v,_,rfl⟩:=List.mem_map.1 hx;rfl
structure Right (vs:List ByteArray):Prop where
 few:vs.length<=30
 pos:0<vs.length
 sz:∀ v∈vs,0<v.size/\v.size<=40
theorem JY5 {vs:List ByteArray} (h:yR7 vs=0):Right vs:=by
 by_cases h1:30<vs.length\/vs.any yZ9=true
 . rw [Kc8 h1] at h;omega
 . by_cases h2:vs.length=0\/vs.any Jd3=true
   . rw [QY4 h1 h2] at h;omega
   . refine⟨by omega,by omega,λ v hv=>⟨?_,?_⟩⟩
     . refine Nat.pos_of_ne_zero λ e=>h2 (.inr (List.any_eq_true.2 ⟨v,hv,?_⟩))
       unfold Jd3;exact decide_eq_true e
     . refine Nat.le_of_not_lt λ e=>h1 (.inr (List.any_eq_true.2 ⟨v,hv,?_⟩))
       unfold yZ9;exact decide_eq_true e
theorem Right.mem {vs:List ByteArray} (h:Right vs):∀ w∈wsL vs,w∈tx (wsL vs) 40:=λ w hw=>by
 obtain⟨v,hv,rfl⟩:=List.mem_map.1 hw;exact(YY6 _ _ _).2 ⟨(h.sz v hv).2,.inr (ke1.2 ⟨_,hw,List.prefix_refl _⟩)⟩
theorem Right.ne {vs:List ByteArray} (h:Right vs):∀ w∈wsL vs,w≠ []:=λ w hw=>by
 obtain⟨v,hv,rfl⟩:=List.mem_map.1 hw;intro e;have h1:v.data.toList.length=0:=by rw [e];rfl
 have h2:=(h.sz v hv).1;have h3:v.size=v.data.toList.length:=rfl;omega
theorem k55 (T:List (List UInt8)):(nds T).length=T.length:=List.length_map _
theorem qD1 {T:List (List UInt8)} {k:Nat} (hk:k<T.length):(nds T).getD k (0,0,0)=ndI T (T.getD k []):=by
 rw [gD _ (by rw [k55];exact hk),gD _ hk];unfold nds;rw [List.getElem_map]
theorem Jb6 {T:List (List UInt8)} {k:Nat} (hk:k<T.length):((nds T).getD k (0,0,0)).2.2=flI T (T.getD k []):=by rw [qD1 hk];rfl
def owP (aw:List Nat) (i k:Nat):List Nat:=if i=0 then [] else (List.range k).filter λ q=>decide (aw.getD q 0=i)
theorem Xh5 (aw:List Nat) (i:Nat):owP aw i 0= []:=by unfold owP;split<;>rfl
theorem qN4 {aw:List Nat} {i k:Nat} (h0:i≠0) (h:aw.getD k 0=i):owP aw i (k+1)=owP aw i k++ [k]:=by
 unfold owP;rw [if_neg h0,if_neg h0,List.range_succ,List.filter_append];congr 1;rw [List.filter_cons,if_pos (decide_eq_true h)];rfl
theorem Qk5 {aw:List Nat} {i k:Nat} (h:i=0\/aw.getD k 0≠i):owP aw i (k+1)=owP aw i k:=by
 unfold owP;by_cases h0:i=0
 . rw [if_pos h0,if_pos h0]
 . rw [if_neg h0,if_neg h0,List.range_succ,List.filter_append,List.filter_cons,if_neg (by rw [decide_eq_true_eq];exact h.resolve_left h0)];exact List.append_nil _
theorem z61 (aw:List Nat) (i k:Nat):(owP aw i k).length<=k:=by
 unfold owP;split
 . exact Nat.zero_le _
 . exact Nat.le_trans (List.length_filter_le _ _) (by rw [List.length_range];exact Nat.le_refl _)
theorem jH4 (L:List (List UInt8)) (t:List UInt8):(enI L t).length<=L.length:=Nat.le_trans (List.length_filter_le _ _) (by rw [List.length_range];exact Nat.le_refl _)
def enW (vs:List ByteArray) (k:Nat):List Nat:=enI (wsL vs) ((tx (wsL vs) 40).getD k [])
theorem z85 (vs:List ByteArray) (k:Nat):(enW vs k).length<=vs.length:=by
 have:=jH4 (wsL vs) ((tx (wsL vs) 40).getD k []);rw [Zh9] at this;exact this
theorem Zp1 {vs:List ByteArray} (h:Right vs):enW vs 0= []:=by
 unfold enW;rw [(Gd.tx (wsL vs) 40).he];exact J06 h.ne
theorem Q93 {vs:List ByteArray} (h:Right vs) {i:Nat} (h0:i≠0):owP (awL vs 40) i vs.length=owI (wsL vs) (tx (wsL vs) 40) i:=by
 unfold owP owI;rw [if_neg h0,Zh9];refine List.filter_congr λ q hq=> ?_
 have hq2:q<vs.length:=List.mem_range.1 hq
 have e1:(awL vs 40).getD q 0=ix (tx (wsL vs) 40) ((wsL vs).getD q []):=by
  rw [gD 0 (by rw [xP8];exact hq2),Z60 hq2,gD [] (by rw [Zh9];exact hq2),qH5 hq2];rw [List.take_of_length_le];exact(h.sz _ (List.getElem_mem hq2)).2
 rw [e1]
theorem xc3 {vs:List ByteArray} (h:Right vs) {i:Nat} (hi:i<(tx (wsL vs) 40).length):
 (enW vs ((nds (tx (wsL vs) 40)).getD i (0,0,0)).2.2++owP (awL vs 40) i vs.length).Nodup/\(enW vs i).Pairwise (· < ·)/\
 (∀ x,x∈enW vs ((nds (tx (wsL vs) 40)).getD i (0,0,0)).2.2++owP (awL vs 40) i vs.length<->x∈enW vs i):=by
 have hg:=Gd.tx (wsL vs) 40;have hfl:((nds (tx (wsL vs) 40)).getD i (0,0,0)).2.2=flI (tx (wsL vs) 40) ((tx (wsL vs) 40).getD i []):=Jb6 hi;rw [hfl];have hs:=kK6 (wsL vs) ((tx (wsL vs) 40).getD i []);by_cases h0:i=0
 . subst h0;have e1:owP (awL vs 40) 0 vs.length= []:=if_pos rfl;rw [e1,List.append_nil,hg.he,yl4,Zp1 h];exact⟨List.nodup_nil,List.Pairwise.nil,λ x=>Iff.rfl⟩
 . rw [Q93 h h0];refine⟨?_,hs,λ x=> ?_⟩
   . refine List.nodup_append.2 ⟨?_,?_,λ a ha b hb e=> ?_⟩
     . exact List.Pairwise.imp (λ h=>Nat.ne_of_lt h) (kK6 _ _)
     . exact List.Pairwise.imp (λ h=>Nat.ne_of_lt h) (jW0 _ _ _)
     . subst e;exact jM9 hg h.mem h.ne (by omega) hi ha hb
   . rw [List.mem_append];exact(jw1 hg h.mem h.ne (by omega) hi x).symm
theorem ZB4 {vs:List ByteArray} {i:Nat} (hi:i<(tx (wsL vs) 40).length):((nds (tx (wsL vs) 40)).getD i (0,0,0)).2.2<(tx (wsL vs) 40).length/\(0<i->((nds (tx (wsL vs) 40)).getD i (0,0,0)).2.2<i)/\(i=0->((nds (tx (wsL vs) 40)).getD i (0,0,0)).2.2=0):=by
 have hg:=Gd.tx (wsL vs) 40;have hfl:((nds (tx (wsL vs) 40)).getD i (0,0,0)).2.2=flI (tx (wsL vs) 40) ((tx (wsL vs) 40).getD i []):=Jb6 hi;rw [hfl];by_cases h0:i=0
 . subst h0;rw [hg.he,yl4];exact⟨hg.po,λ h=>absurd h (Nat.lt_irrefl _),λ _=>rfl⟩
 . have hne:(tx (wsL vs) 40).getD i []≠ []:=λ e=>by
    have:=q75 hg.nd hi hg.po (by rw [e,hg.he]);omega
   obtain⟨k1,k2,_⟩:=hg.fl hne;refine⟨k1,λ _=>Nat.lt_of_not_le λ hle=> ?_,λ e=>absurd e h0⟩;have h1:=hg.le hle k1;have h2:=k2.1;omega
theorem Mk.ends {b0 gm gk ga nK:Nat} {nv:Value} {D:List (Nat×Nat×Nat)} {F:Int->Int->Option Nat} {aw:List Nat} {wr:World} (h:Mk b0 gm gk ga nv D nK F aw wr) (hD:0<D.length) (EN:Nat->List Nat) (h0:EN 0= []):
 ∃ g c,nv= .slice (some ⟨g,0,none⟩) D.length c/\D.length<=c/\Ez b0 wr.heap.size gm gk g ga D.length c D aw 1 EN (λ _=> .slice none 0 0) wr:=by
 rcases h.ow.2 with⟨_,e⟩|⟨g,cap,cur,e,hg,hw,hnc,hcap,hsz,htk⟩
 . omega
 . have hgl:g<wr.heap.size:=(Array.getElem?_eq_some_iff.1 hw).1;obtain⟨k1,k2,k3⟩:=h.nn;have e1:g≠gm:=λ x=>k1 (by rw [e,x];rfl)
   have e3:g≠ga:=λ x=>k3 (by rw [e,x];rfl)
   have hmb:=h.mb;rw [e] at hmb;refine⟨g,cap,e,hnc,hmb,⟨cur,hw,λ k hk=> ?_⟩,h.ba,λ k hk=> ?_,⟨λ x=>e1 x.symm,λ x=>e3 x.symm⟩,⟨h.lo.1,hg,h.lo.2.2⟩,⟨Blk.lt h.mb,hgl,Blk.lt h.ba,Nat.le_refl _⟩⟩
   . have key:∀ j,j<4->cur[k*4+j]? =(ndC (D.getD k (0,0,0)))[j]? :=λ j hj=>by
      have h1:=YC5 hk hj;rw [<-htk,List.getElem?_take_of_lt (by omega),Array.getElem?_toList] at h1;rw [h1,gD _ hk]
     exact⟨key 0 (by omega),key 1 (by omega),key 2 (by omega),key 3 (by omega)⟩
   . obtain rfl:k=0:=(by omega);rw [h0];exact⟨OwI.nil _ _,λ x hx=>by cases hx⟩
theorem Qc1 (N:Nat) (hN:N<=1000000) (w:World):(Instr.makeSlice 41 (.int .i64 (N:Int)) (.int .i64 (N:Int))).run Tryz.prog w= .ok (.slice (some ⟨w.heap.size,0,none⟩) N N) (w.alloc (.cells (madeCells #[.int .i64 0] N) 3)):=
 run_make_row' (P:=Tryz.prog) 41 3 (.int .i64 0) 8 Tryz.underlying41 QB6 rfl .i64 .i64 N (by omega) (by omega) w
theorem qO0 (w:World) (o:Obj):(w.alloc o).heap.size=w.heap.size+1:=Array.size_push _
theorem JH6 (n:Nat):madeCells #[.int .i64 0] n=(atV (List.replicate n 0)).toArray:=by
 apply Array.toList_inj.1;rw [toList_madeCells_one];unfold atV;rw [List.map_replicate];rfl
theorem Mk.start (vs:List ByteArray) (w:World):Mk w.heap.size (w.heap.size+1+1+1) (w.heap.size+1) (w.heap.size+1+1) (.slice (some ⟨w.heap.size,0,none⟩) 1 1) (nds (tx (wsL vs) 0)) 0 (kd (tx (wsL vs) 0)) (awL vs 0) ((((w.alloc (.cells #[.int .u8 0,.int .i64 0,.int .i64 0,.slice none 0 0] 165)).alloc (.map #[] 0)).alloc (.cells (madeCells #[.int .i64 0] vs.length) 3)).alloc (.cells #[.slice (some ⟨w.heap.size,0,none⟩) 1 1,.map (some (w.heap.size+1)),.slice (some ⟨w.heap.size+1+1,0,none⟩) vs.length vs.length] 188)):=by
 have z1:(w.alloc (.cells #[.int .u8 0,.int .i64 0,.int .i64 0,.slice none 0 0] 165)).heap.size=w.heap.size+1:=by rw [qO0]
 have z2:((w.alloc (.cells #[.int .u8 0,.int .i64 0,.int .i64 0,.slice none 0 0] 165)).alloc (.map #[] 0)).heap.size=w.heap.size+1+1:=by rw [qO0,qO0]
 have z3:(((w.alloc (.cells #[.int .u8 0,.int .i64 0,.int .i64 0,.slice none 0 0] 165)).alloc (.map #[] 0)).alloc (.cells (madeCells #[.int .i64 0] vs.length) 3)).heap.size=w.heap.size+1+1+1:=by rw [qO0,qO0,qO0]
 have al:(awL vs 0).length=vs.length:=xP8 vs 0;rw [kD6,Z03];refine⟨?_,?_,?_,?_,⟨by omega,by omega,by omega⟩,⟨?_,?_,?_⟩,⟨by omega,by omega,by omega⟩⟩
 . have h:=Blk.new (((w.alloc (.cells #[.int .u8 0,.int .i64 0,.int .i64 0,.slice none 0 0] 165)).alloc (.map #[] 0)).alloc (.cells (madeCells #[.int .i64 0] vs.length) 3)) 188 #[.slice (some ⟨w.heap.size,0,none⟩) 1 1,.map (some (w.heap.size+1)),.slice (some ⟨w.heap.size+1+1,0,none⟩) vs.length vs.length];rw [z3] at h;rw [al];exact h
 . have h0:(w.alloc (.cells #[.int .u8 0,.int .i64 0,.int .i64 0,.slice none 0 0] 165)).ownsRow w.heap.size 165 4 (.slice (some ⟨w.heap.size,0,none⟩) 1 1) [((0:Nat),(0:Nat),(0:Nat))].length (nfl [((0:Nat),(0:Nat),(0:Nat))]):=⟨rfl,.inr ⟨w.heap.size,1,#[.int .u8 0,.int .i64 0,.int .i64 0,.slice none 0 0],rfl,Nat.le_refl _,heap_alloc_new w _,Nat.le_refl _,by unfold maxLen;omega,rfl,rfl⟩⟩;exact((h0.alloc _).alloc _).alloc _
 . have h:=EdgeM.made (w.alloc (.cells #[.int .u8 0,.int .i64 0,.int .i64 0,.slice none 0 0] 165));rw [z1] at h;exact(h.alloc _).alloc _
 . have h:=Blk.new ((w.alloc (.cells #[.int .u8 0,.int .i64 0,.int .i64 0,.slice none 0 0] 165)).alloc (.map #[] 0)) 3 (madeCells #[.int .i64 0] vs.length);rw [z2] at h;rw [QQ9,<-JH6];exact h.alloc _
 . intro e;have e2:w.heap.size=w.heap.size+1+1+1:=Option.some.inj e;omega
 . intro e;have e2:w.heap.size=w.heap.size+1:=Option.some.inj e;omega
 . intro e;have e2:w.heap.size=w.heap.size+1+1:=Option.some.inj e;omega
def QG2 (vs:List ByteArray) (w:World) (e:Ending) (w':World):Prop:=Below w.heap.size w w'/\((yR7 vs≠0/\e= .returned (.tuple #[.slice none 0 0,.int .i64 (yR7 vs)]))\/(yR7 vs=0/\400<(tx (wsL vs) 40).length/\e= .returned (.tuple #[.slice none 0 0,.int .i64 2]))\/(yR7 vs=0/\(tx (wsL vs) 40).length<=400/\∃ g c,(tx (wsL vs) 40).length<=c/\e= .returned (.tuple #[.slice (some ⟨g,0,none⟩) (tx (wsL vs) 40).length c,.int .i64 0])/\TreeM w' w'.heap.size (some ⟨g,0,none⟩) (nds (tx (wsL vs) 40)) (enW vs)))
section
variable (vs:List ByteArray) (A:Option Addr) (cap B:Nat) (w:World)
set_option maxRecDepth 100000 in
set_option maxHeartbeats 8000000 in
theorem ZJ7 (hS:StW w B A cap vs):Calls Tryz.prog 105 #[.slice A vs.length cap] w (QG2 vs w):=by
 have HS:=qh hS;have hcap:=hS.hc;have CK:=qh (jW9 vs A cap B w hS);clear hS;by_cases h0:yR7 vs=0
 . have HR:=qh (JY5 h0);have H0:=qh h0;have hv30:=HR.out.few;have hvp:=HR.out.pos;have hmk:=Qc1 vs.length (by omega);have hmm:=@run_makeMap Tryz.prog;have HMS:=qh (Mk.start vs w);have HBS:Hid (Below w.heap.size w ((((w.alloc (.cells #[.int .u8 0,.int .i64 0,.int .i64 0,.slice none 0 0] 165)).alloc (.map #[] 0)).alloc (.cells (madeCells #[.int .i64 0] vs.length) 3)).alloc (.cells #[.slice (some ⟨w.heap.size,0,none⟩) 1 1,.map (some (w.heap.size+1)),.slice (some ⟨w.heap.size+1+1,0,none⟩) vs.length vs.length] 188))):=qh ((((Below.refl _ _).alloc (Nat.le_refl _) _).alloc (by rw [qO0];omega) _).alloc (by rw [qO0,qO0];omega) _|>.alloc (by rw [qO0,qO0,qO0];omega) _);obtain⟨R,hRe⟩:∃ R,R=QG2 vs w:=⟨_,rfl⟩;rw [<-hRe];have HRE:=qh hRe;clear h0 hRe;go_enter Tryz.func105,Tryz.ntmps105;go_wp2_with fail;refine CK.out.mono ?_;rintro e w1 ⟨rfl,rfl⟩;rw [H0.out];clear CK;go_wp2_with fail;obtain⟨W,hW⟩:∃ W,((((w1.alloc (.cells #[.int .u8 0,.int .i64 0,.int .i64 0,.slice none 0 0] 165)).alloc (.map #[] 0)).alloc (.cells (madeCells #[.int .i64 0] vs.length) 3)).alloc (.cells #[.slice (some ⟨w1.heap.size,0,none⟩) 1 1,.map (some (w1.heap.size+1)),.slice (some ⟨w1.heap.size+1+1,0,none⟩) vs.length vs.length] 188))=W:=⟨_,rfl⟩;rw [hW] at HMS HBS⊢;obtain⟨gm,hgm⟩:∃ gm,w1.heap.size+1+1+1=gm:=⟨_,rfl⟩;obtain⟨ga,hga⟩:∃ ga,w1.heap.size+1+1=ga:=⟨_,rfl⟩;obtain⟨gk,hgk⟩:∃ gk,w1.heap.size+1=gk:=⟨_,rfl⟩;rw [hgm,hga,hgk] at HMS;rw [hgm,hga,hgk];have hb0:B<=w1.heap.size:=HS.out.hB;clear hW hgm hga hgk hmk hmm;go_loopw [24] (λ u wr=>∃ (n:Nat) (nv:Value) (nK:Nat),u= .int .i64 (n:Int)/\n<=40/\nK+1=(tx (wsL vs) n).length/\(tx (wsL vs) n).length<=400/\Hid (Mk w1.heap.size gm gk ga nv (nds (tx (wsL vs) n)) nK (kd (tx (wsL vs) n)) (awL vs n) wr)/\Hid (Below w1.heap.size w1 wr)) (λ u _=>40-(intOf u).toNat)
   case atStart=>exact⟨0,_,0,rfl,by omega,rfl,by show 1<=400;omega,HMS,HBS⟩
   case round=>
    clear HMS HBS;obtain⟨n,nv,nK,rfl,hn,hnK,hT4,HM,HB⟩:=hrel;by_cases hlt:n<40
    . have hnw:IntKind.i64.wrap ((n:Int)+1)=(n:Int)+1:=IntWalk.i64_in _ (by omega);have CLV:=qh (X00 vs A cap B n wr w1.heap.size gm gk ga nK nv (HS.out.below (HB.out.mono hb0)) hv30 hlt hT4 hb0 HB.out.size hnK HM.out);clear HM hnK hT4;go_wp2_with fail;refine CLV.out.mono ?_;rintro e w2 ⟨hb2,hres⟩;have HB2:Hid (Below w1.heap.size w1 w2):=qh (HB.out.trans hb2);clear hb2 CLV HB;rcases hres with⟨hbig,rfl⟩|⟨hle,rfl,nv2,nK2,hnK2,hM2⟩
      . have HBIG:=qh (Nat.lt_of_lt_of_le hbig (QF5 (wsL vs) (show n+1<=40 by omega)));clear hbig;go_wp2_with fail;rw [HRE.out];exact⟨HB2.out,.inr (.inl ⟨H0.out,HBIG.out,rfl⟩)⟩
      . have HM2:=qh hM2;clear hM2;go_wp2_with fail;go_roundw
        case rel=>exact⟨n+1,nv2,nK2,by go_num,by omega,hnK2,hle,HM2,HB2⟩
        case measure=>simp [intOf];omega
    . obtain rfl:n=40:=(by omega);clear hlt hn;obtain⟨T,hT⟩:∃ T,T=tx (wsL vs) 40:=⟨_,rfl⟩;obtain⟨D,hD⟩:∃ D,D=nds (tx (wsL vs) 40):=⟨_,rfl⟩;obtain⟨aw,haw⟩:∃ aw,aw=awL vs 40:=⟨_,rfl⟩;have hDl:D.length=T.length:=by rw [hD,hT,k55]
      have HFL:Hid (∀ i,i<T.length->(D.getD i (0,0,0)).2.2<T.length/\(0<i->(D.getD i (0,0,0)).2.2<i)/\(i=0->(D.getD i (0,0,0)).2.2=0)):=qh λ i hi=>by
       rw [hT] at hi⊢;rw [hD];exact ZB4 hi
      have HEM:Hid (∀ i,i<T.length->(enW vs (D.getD i (0,0,0)).2.2++owP aw i vs.length).Nodup/\(enW vs i).Pairwise (· < ·)/\(∀ x,x∈enW vs (D.getD i (0,0,0)).2.2++owP aw i vs.length<->x∈enW vs i)):=qh λ i hi=>by
       rw [hT] at hi;rw [hD,haw];exact xc3 HR.out hi
      have hal:aw.length=vs.length:=(by rw [haw];exact xP8 vs 40);have HTE:=qh hT;have HDE:=qh hD;rw [<-hT] at hT4 hnK;rw [<-hD,<-haw] at HM;obtain⟨g,c,hnv,hNc,hEz⟩:=HM.out.ends (by rw [hDl];omega) (enW vs) (Zp1 HR.out);subst hnv;rw [hDl] at hNc hEz;obtain⟨N,hN⟩:∃ N,N=T.length:=⟨_,rfl⟩;rw [<-hN] at hNc hEz HFL HEM hT4 hDl;have HNE:=qh hN;have HDL:=qh hDl;have hnp:0<N:=(by rw [hN,<-hnK];omega);have m0:=Blk.e0 hEz.mb;have HE:=qh hEz;clear hT hD haw hEz HM hnK hN hDl;obtain⟨wm,rfl⟩:∃ wm:World,wm=wr:=⟨_,rfl⟩;go_wp2_with fail;clear m0;go_loopw [38] (λ u wr=>∃ (i H m:Nat) (EV:Nat->Value),u= .int .i64 (i:Int)/\i<=N/\i<=m/\0<m/\Hid (Ez w1.heap.size H gm gk g ga N c D aw m (enW vs) EV wr)/\Hid (Below w1.heap.size w1 wr)) (λ u _=>N-(intOf u).toNat)
      case atStart=>exact⟨0,_,1,_,rfl,by omega,by omega,by omega,HE,HB⟩
      case round=>
       clear HE HB;obtain⟨i,H,m,EV,rfl,hi,him,hm0,HE,HB⟩:=hrel;by_cases hlt:i<N
       . obtain⟨f,hf⟩:∃ f,f=(D.getD i (0,0,0)).2.2:=⟨_,rfl⟩;obtain⟨f1,f2,f3⟩:=HFL.out i hlt;obtain⟨e1,e2,e3⟩:=HEM.out i hlt;rw [<-hf] at f1 f2 f3 e1 e3
         have hfm:f<m:=by
          rcases Nat.eq_zero_or_pos i with h|h
          . rw [f3 h];exact hm0
          . have:=f2 h;omega
         have HSRT:Hid ((enW vs f++owP aw i vs.length).Nodup/\(enW vs i).Pairwise (· < ·)/\(∀ x,x∈enW vs f++owP aw i vs.length<->x∈enW vs i)):=qh ⟨e1,e2,e3⟩;clear e1 e2 e3 f2 f3;have j1:(i:Int)<(N:Int):=(by omega);have j0:(0:Int)<=(i:Int):=(by omega);have j3:(f:Int)<(N:Int):=(by omega);have j2:(0:Int)<=(f:Int):=(by omega);have hiw:IntKind.i64.wrap ((i:Int)+1)=(i:Int)+1:=IntWalk.i64_in _ (by omega);obtain⟨ad,had⟩:∃ ad:Addr,ad=⟨g,0,none⟩:=⟨_,rfl⟩;have HPE:Hid (∀ k j,0<j->(⟨(ad.add (k*4)).block,(ad.add (k*4)).off+j,none⟩:Addr)=⟨g,k*4+j,none⟩):=qh λ k j _=>by rw [had,addN]
         obtain⟨Hn,hHn⟩:∃ Hn,Hn=wr.heap.size:=⟨_,rfl⟩;have hHH:H<=Hn:=(by rw [hHn];exact HE.out.hi.2.2.2);have HE1:Hid (Ez w1.heap.size Hn gm gk g ga N c D aw i (enW vs) EV wr.drew):=qh (((HE.out.up hHH (by rw [hHn];exact Nat.le_refl _)).weak him).step ((Below.refl _ _).drew));obtain⟨o1,_⟩:=HE.out.en f hfm;have o1:OwI wr.drew w1.heap.size (EV f) (enW vs f):=o1.step (below_drewN (Below.refl _ _) 1);have hlf:=z85 vs f;have CC:=qh (zz1 o1 (by omega));have nf:=HE.out.node f1;have ni:=HE.out.node hlt;obtain⟨_,_,n2,n3,n4⟩:=ni;obtain⟨_,_,_,p3,_⟩:=nf;rw [<-HPE.out _ 2 (by omega),<-hf] at n2;rw [<-HPE.out _ 3 (by omega)] at p3;have m0:wr.cell? ⟨gm,0,none⟩=some (.slice (some ad) N c):=(by rw [had];exact HE.out.mb.cell 0);obtain⟨vf,hvf⟩:∃ vf,EV f=vf:=⟨_,rfl⟩;rw [hvf] at p3 CC;have HBd:Hid (Below w1.heap.size w1 wr.drew):=qh (below_drewN HB.out 1);have hHd:wr.drew.heap.size=Hn:=hHn.symm;have HAD:=qh had;have hNb:w1.heap.size<=Hn:=(by rw [hHn];exact HB.out.size);clear had hvf o1 n3 n4 hf hHn HE HB hfm;go_wp2_with fail
         go_region_law (first
          |(go_simp;go_at_call 139;(refine CC.out.mono ?_);rintro e w2 ⟨v2,rfl,ho2,hb2⟩;obtain⟨A2,c2,rfl⟩:=ho2.form;have he2:=HE1.out.step (by rw [hHd] at hb2;exact hb2);have q:=he2.node hlt;have q3:w2.cell? ⟨(ad.add (i*4)).block,(ad.add (i*4)).off+3,none⟩=some (EV i):=(congrArg w2.cell? (HPE.out i 3 (by omega))).trans q.2.2.2.1;have q4:w2.frozen? ⟨(ad.add (i*4)).block,(ad.add (i*4)).off+3,none⟩=false:=(congrArg w2.frozen? (HPE.out i 3 (by omega))).trans q.2.2.2.2))
         all_goals
          have HE3:Hid (Ez w1.heap.size Hn gm gk g ga N c D aw i (enW vs) (λ k=>if k=i then .slice A2 (enW vs f).length c2 else EV k) (w2.setCell ⟨(ad.add (i*4)).block,(ad.add (i*4)).off+3,none⟩ (.slice A2 (enW vs f).length c2))):=qh (by rw [HPE.out _ 3 (by omega)];exact he2.put (Nat.le_refl _) _);have ho3:OwI w2 Hn (.slice A2 (enW vs f).length c2) (enW vs f):=(by rw [hHd] at ho2;exact ho2);have hgn:g<Hn:=he2.hi.2.1
          have HO3:Hid (OwI (w2.setCell ⟨(ad.add (i*4)).block,(ad.add (i*4)).off+3,none⟩ (.slice A2 (enW vs f).length c2)) Hn (.slice A2 (enW vs f).length c2) (enW vs f)):=qh (by
           rw [HPE.out _ 3 (by omega)];exact ho3.set (λ e=>by have:=(World.ownsRow.lt ho3 _ e).1;dsimp only at this;omega) _)
          have HB3:Hid (Below w1.heap.size w1 (w2.setCell ⟨(ad.add (i*4)).block,(ad.add (i*4)).off+3,none⟩ (.slice A2 (enW vs f).length c2))):=qh (by
           rw [HPE.out _ 3 (by omega)];exact(HBd.out.trans (hb2.mono HBd.out.size)).setCell (p:=⟨g,i*4+3,none⟩) he2.lo.2.1 _)
          obtain⟨W3,hW3⟩:∃ W3,w2.setCell ⟨(ad.add (i*4)).block,(ad.add (i*4)).off+3,none⟩ (.slice A2 (enW vs f).length c2)=W3:=⟨_,rfl⟩;rw [hW3] at HE3 HO3 HB3⊢;have m2:=Blk.e2 HE3.out.mb;clear hW3 ho2 hb2 he2 q q3 q4 ho3 HE1 HBd CC m0 n2 p3 hHd;go_wp2_with fail;clear m2;go_loopw [67] (λ u wr=>∃ (k:Nat) (v:Value) (xs:List Nat) (EV:Nat->Value),u= .int .i64 (k:Int)/\k<=vs.length/\Hid (xs=enW vs f++owP aw i k)/\Hid (EV i=v)/\Hid (OwI wr Hn v xs)/\Hid (Ez w1.heap.size Hn gm gk g ga N c D aw i (enW vs) EV wr)/\Hid (Below w1.heap.size w1 wr)) (λ u _=>vs.length-(intOf u).toNat)
          case atStart=>exact⟨0,_,enW vs f,_,rfl,Nat.zero_le _,qh (by rw [Xh5,List.append_nil]),qh (if_pos rfl),HO3,HE3,HB3⟩
          case round=>
           clear HE3 HO3 HB3;obtain⟨k,v,xs,EW,rfl,hk,HX,HV,HO,HE,HB⟩:=hrel;have n3:wr.cell? ⟨(ad.add (i*4)).block,(ad.add (i*4)).off+3,none⟩=some v:=(by rw [HPE.out _ 3 (by omega),(HE.out.node hlt).2.2.2.1,HV.out]);have n4:wr.frozen? ⟨(ad.add (i*4)).block,(ad.add (i*4)).off+3,none⟩=false:=by rw [HPE.out _ 3 (by omega),(HE.out.node hlt).2.2.2.2]
           have hxl:xs.length<=60:=by
            have h1:=z61 aw i k;rw [HX.out,List.length_append];omega
           have hHs:Hn<=wr.heap.size:=HE.out.hi.2.2.2;by_cases hkl:k<vs.length
           . have l1:(k:Int)<(vs.length:Int):=(by omega);have l0:(0:Int)<=(k:Int):=(by omega);have hka:k<aw.length:=(by rw [hal];exact hkl);have hkw:IntKind.i64.wrap ((k:Int)+1)=(k:Int)+1:=IntWalk.i64_in _ (by omega);obtain⟨a0,a1⟩:=HE.out.atw hka;obtain⟨y,hy⟩:∃ y,y=aw[k]:=⟨_,rfl⟩;rw [<-hy] at a0 a1;have hyd:aw.getD k 0=y:=(by rw [gD 0 hka,hy]);clear hy hka;by_cases hadd:y=i/\0<i
             . have d1:((y:Int)==(i:Int))=true:=beq_iff_eq.2 (by omega);have d2:decide ((0:Int)<(i:Int))=true:=decide_eq_true (by omega);have d3:(0:Int)<(i:Int):=(by omega);have HX2:Hid (xs++ [k]=enW vs f++owP aw i (k+1)):=qh (by rw [qN4 (by omega) (by rw [hyd];exact hadd.1),HX.out,List.append_assoc]);clear hadd hyd;go_wp2_with (first|(at_builtin;refine K07 rfl (.tmp 83) (.tmp 85) rfl HO.out rfl k rfl (by omega) hHs ?_;intro A5 c5 w5 h5 b5;have he5:=HE.out.step b5;have q3:w5.cell? ⟨(ad.add (i*4)).block,(ad.add (i*4)).off+3,none⟩=some v:=(congrArg w5.cell? (HPE.out i 3 (by omega))).trans ((he5.node hlt).2.2.2.1.trans (congrArg some HV.out));have q4:w5.frozen? ⟨(ad.add (i*4)).block,(ad.add (i*4)).off+3,none⟩=false:=(congrArg w5.frozen? (HPE.out i 3 (by omega))).trans (he5.node hlt).2.2.2.2)|fail);have hgn:g<Hn:=he5.hi.2.1;have HE5:Hid (Ez w1.heap.size Hn gm gk g ga N c D aw i (enW vs) (λ q=>if q=i then .slice A5 (xs.length+1) c5 else EW q) (w5.setCell ⟨(ad.add (i*4)).block,(ad.add (i*4)).off+3,none⟩ (.slice A5 (xs.length+1) c5))):=qh (by rw [HPE.out _ 3 (by omega)];exact he5.put (Nat.le_refl _) _)
               have HO5:Hid (OwI (w5.setCell ⟨(ad.add (i*4)).block,(ad.add (i*4)).off+3,none⟩ (.slice A5 (xs.length+1) c5)) Hn (.slice A5 (xs.length+1) c5) (xs++ [k])):=qh (by
                rw [HPE.out _ 3 (by omega)];exact h5.set (λ e=>by have:=(World.ownsRow.lt h5 _ e).1;dsimp only at this;omega) _)
               have HB5:Hid (Below w1.heap.size w1 (w5.setCell ⟨(ad.add (i*4)).block,(ad.add (i*4)).off+3,none⟩ (.slice A5 (xs.length+1) c5))):=qh (by
                rw [HPE.out _ 3 (by omega)];exact(HB.out.trans (b5.mono hNb)).setCell (p:=⟨g,i*4+3,none⟩) he5.lo.2.1 _)
               clear h5 b5 he5 HX HO HE HB;go_wp2_with fail;go_roundw
               case rel=>exact⟨k+1,.slice A5 (xs.length+1) c5,xs++ [k],_,by go_num,by omega,HX2,qh (if_pos rfl),HO5,HE5,HB5⟩
               case measure=>simp [intOf];omega
             . have HX2:Hid (xs=enW vs f++owP aw i (k+1)):=qh (by rw [Qk5 (by rw [hyd];omega),HX.out]);clear HX hyd;by_cases hyi:y=i
               focus
                have d1:((y:Int)==(i:Int))=true:=beq_iff_eq.2 (by omega);have d2:decide ((0:Int)<(i:Int))=false:=decide_eq_false (by omega);have d3:¬(0:Int)<(i:Int):=by omega
               rotate_left
               focus
                have d1:((y:Int)==(i:Int))=false:=beq_eq_false_iff_ne.2 (by omega)
               all_goals
                clear hadd hyi;go_wp2_with fail;go_roundw
                case rel=>exact⟨k+1,v,xs,EW,by go_num,by omega,HX2,HV,HO,HE,HB⟩
                case measure=>simp [intOf];omega
           . obtain rfl:k=vs.length:=(by omega);have CS:=qh (YN2 HO.out (by omega) hHs (by rw [HX.out];exact HSRT.out.1) HSRT.out.2.1 (by rw [HX.out];exact HSRT.out.2.2));clear hkl hxl HX HSRT;go_wp2_with fail;refine CS.out.mono ?_;rintro e w4 ⟨rfl,ho4,hb4⟩;have hs4:Hn<=w4.heap.size:=Nat.le_trans hHs hb4.size;have HE4:Hid (Ez w1.heap.size w4.heap.size gm gk g ga N c D aw (i+1) (enW vs) EW w4):=qh ((HE.out.step hb4).next ho4 HV.out rfl hs4 rfl);have HB4:Hid (Below w1.heap.size w1 w4):=qh (HB.out.trans (hb4.mono hNb));clear ho4 hb4 CS n3 n4 HO HE HB;go_wp2_with fail;go_roundw
             case rel=>
              (repeat apply Exists.intro)
              refine⟨?_,rfl⟩;exact⟨i+1,_,i+1,EW,by go_num,by omega,by omega,by omega,HE4,HB4⟩
             case measure=>simp [intOf];omega
       . obtain rfl:i=N:=(by omega);have HT4:=qh hT4;have m0:=Blk.e0 HE.out.mb;have HTR:=qh (HE.out.tree HDL.out him);have HNC:=qh hNc;clear hlt hi hT4 hNc;go_wp2_with fail;rw [HRE.out];refine⟨HB.out,.inr (.inr ⟨H0.out,?_,g,c,?_,?_,?_⟩)⟩
         . rw [<-HTE.out,<-HNE.out];exact HT4.out
         . rw [<-HTE.out,<-HNE.out];exact HNC.out
         . rw [<-HTE.out,<-HNE.out];rfl
         . rw [<-HDE.out];exact HTR.out
 . have e0:(yR7 vs==0)=false:=beq_eq_false_iff_ne.2 h0;have e1:(yR7 vs !=0)=true:=bne_iff_ne.2 h0;have H0:=qh h0;obtain⟨R,hRe⟩:∃ R,R=QG2 vs w:=⟨_,rfl⟩;rw [<-hRe];have HRE:=qh hRe;obtain⟨C,hC⟩:∃ C,yR7 vs=C:=⟨_,rfl⟩;have HC:=qh hC;rw [hC] at CK e0 e1;clear h0 hRe hC;go_enter Tryz.func105,Tryz.ntmps105;go_wp2_with fail;refine CK.out.mono ?_;rintro e w1 ⟨rfl,rfl⟩;clear CK;go_wp2_with fail;rw [HRE.out];exact⟨Below.refl _ _,.inl ⟨H0.out,by rw [HC.out];rfl⟩⟩
end
def KQ0 (bits:Int):Nat:=(min (max bits 0) 32).toNat
theorem JM7 (bits:Int):KQ0 bits<=32:=by unfold KQ0;omega
def zJ2 (bits:Int):Nat:=4294967296-2^(32-KQ0 bits)
theorem kD0:∀ b:Fin 33,IntKind.u64.wrap (4294967295*2^((32:Int)-(b.val:Int)).toNat)%4294967296=((4294967296-2^(32-b.val):Nat):Int):=by decide+kernel
theorem zb2 {bits:Int} (h0:0<=bits) (h1:bits<=32):IntKind.u64.wrap (4294967295*2^(32-bits).toNat)%4294967296=(zJ2 bits:Int):=by
 obtain⟨b,rfl⟩:=Int.eq_ofNat_of_zero_le h0;have hm:KQ0 (b:Int)=b:=by unfold KQ0;omega
 have:=kD0 ⟨b,by omega⟩;unfold zJ2;rw [hm];exact this
theorem xk9 {bits:Int} (h:32<=bits):(zJ2 bits:Int)=4294967295:=by
 have hm:KQ0 bits=32:=by unfold KQ0;omega
 unfold zJ2;rw [hm];rfl
theorem kT8 {bits:Int} (h:bits<=0):(zJ2 bits:Int)=0:=by
 have hm:KQ0 bits=0:=by unfold KQ0;omega
 unfold zJ2;rw [hm];rfl
theorem k57 (bits:Int) (w:World):Calls Tryz.prog 170 #[.int .i64 bits] w λ e w'=>e= .returned (.int .u32 (zJ2 bits))/\w=w':=by
 have hw1:IntKind.u64.wrap 4294967295%4294967296=4294967295:=by decide+kernel
 have hw2:IntKind.u64.wrap 18446744069414584320%4294967296=0:=by decide+kernel
 have H1:=qh (@zb2 bits);have H2:=qh (@xk9 bits);have H3:=qh (@kT8 bits);have j1:0<=bits->bits<=32->IntKind.i64.wrap ((32:Int)-bits)=(32:Int)-bits:=λ _ _=>IntWalk.i64_in _ (by omega)
 by_cases c1:bits<0
 . have hx:max bits 0=0:=(by omega);go_enter Tryz.func170,Tryz.ntmps170;go_wp2_with fail;all_goals go_ret
   all_goals exact⟨q54 (by first|(rw [H3.out (by omega)];done)|(rw [H3.out (by omega)];exact hw2)),rfl⟩
 . by_cases c2:32<bits
   . have hx:max bits 0=bits:=(by omega);have hx2:min bits 32=32:=(by omega);go_enter Tryz.func170,Tryz.ntmps170;go_wp2_with fail;all_goals go_ret
     all_goals exact⟨q54 (by first|(rw [H2.out (by omega)];done)|(rw [H2.out (by omega)];exact hw1)),rfl⟩
   . have hx:max bits 0=bits:=(by omega);have hx2:min bits 32=bits:=(by omega);have j2:=j1 (by omega) (by omega);have i1:0<=bits:=(by omega);have i2:bits<=32:=(by omega);go_enter Tryz.func170,Tryz.ntmps170;go_wp2_with fail;all_goals go_ret
     all_goals exact⟨q54 (H1.out (by omega) (by omega)),rfl⟩
theorem Kb9 (a j:Nat):a%2^j=0<->∀ i,i<j->a.testBit i=false:=by
 constructor
 . intro h i hi;have:=Nat.testBit_mod_two_pow a j i;rw [h,Nat.zero_testBit] at this
   simpa [hi] using this.symm
 . intro h;refine Nat.eq_of_testBit_eq λ i=> ?_
   rw [Nat.testBit_mod_two_pow,Nat.zero_testBit];by_cases hi:i<j
   . rw [h i hi];simp
   . simp [hi]
theorem q72:∀ b:Fin 33,BitVec.ofNat 32 (4294967296-2^(32-b.val))= ~~~ BitVec.ofNat 32 (2^(32-b.val)-1):=by decide+kernel
theorem xY6 (bits:Int):BitVec.ofInt 32 (zJ2 bits:Int)= ~~~ BitVec.ofNat 32 (2^(32-KQ0 bits)-1):=by
 rw [BitVec.ofInt_natCast];exact q72 ⟨KQ0 bits,by have:=JM7 bits;omega⟩
theorem JX8 (a:Nat) (bits:Int) (ha:a<4294967296):Go.bits .andNot .u32 (a:Int) (zJ2 bits:Int)=((a%2^(32-KQ0 bits):Nat):Int):=by
 show IntKind.u32.wrap ((BitVec.ofInt 32 (a:Int)&&& ~~~ BitVec.ofInt 32 (zJ2 bits:Int)).toNat:Int)=_;have hk:2^(32-KQ0 bits)<=4294967296:=Nat.pow_le_pow_right (by decide) (show 32-KQ0 bits<=32 by omega)
 have h:(BitVec.ofInt 32 (a:Int)&&& ~~~ BitVec.ofInt 32 (zJ2 bits:Int)).toNat=a%2^(32-KQ0 bits):=by
  rw [xY6,BitVec.not_not,BitVec.toNat_and,BitVec.ofInt_natCast,BitVec.toNat_ofNat,BitVec.toNat_ofNat,Nat.mod_eq_of_lt (by omega),Nat.mod_eq_of_lt (a:=2^(32-KQ0 bits)-1) (by omega),Nat.and_two_pow_sub_one_eq_mod]
 rw [h];have hm:a%2^(32-KQ0 bits)<=a:=Nat.mod_le _ _;exact IntWalk.u32_in _ ⟨by omega,by omega⟩
theorem KA5 {a p:Nat} {x:Bool} (h:a.testBit p=x):((a:Int)/2^p).tmod 2=(x.toNat:Int):=by
 have h1:(a:Int)/2^p=((a/2^p:Nat):Int):=by rw [Int.natCast_ediv,Int.natCast_pow];rfl
 rw [h1,Int.tmod_eq_emod_of_nonneg (Int.natCast_nonneg _)];rw [Nat.testBit_eq_decide_div_mod_eq] at h;cases x with
 |true=>have:=of_decide_eq_true h;show _=(1:Int);omega
 |false=>have:=of_decide_eq_false h;show _=(0:Int);omega
end Go.Proofs.YtngepacmgabmaaaGreatDoor
