/- Phrases' trees plainly: nodes, levels by; The maker of a tree in memory: nodes, ch .. -/
import Derived.Test.YtngepacmgabmaaaGreatDoorGam
namespace Go.Proofs.YtngepacmgabmaaaGreatDoor
open Go.RowKit
set_option linter.unusedVariables false
set_option linter.unusedSimpArgs false
def byI (t:List UInt8):Nat:=match t.getLast? with
 |some c=>c.toNat
 |none=>0
def upI (T:List (List UInt8)) (t:List UInt8):Nat:=ix T t.dropLast
def ndI (T:List (List UInt8)) (t:List UInt8):Nat×Nat×Nat:=(byI t,upI T t,flI T t)
def nds (T:List (List UInt8)):List (Nat×Nat×Nat):=T.map (ndI T)
theorem Jd5 (u:List UInt8) {b:Nat} (hb:b<256):byI (u++ [bt b])=b:=by
 unfold byI;rw [List.getLast?_concat];show (bt b).toNat=b;unfold bt;rw [UInt8.toNat_ofNat'];omega
theorem zT3 {T M:List (List UInt8)} {t:List UInt8}:∀ {m:Nat},m<=T.length->flN (T++M) t m=flN T t m
 |0,_=>rfl
 |m+1,h=>by
  unfold flN;have e:Sf (T++M) t m<->Sf T t m:=by unfold Sf;rw [Ji8 (by omega)]
  by_cases hs:Sf T t m
  . rw [if_pos hs,if_pos (e.2 hs)]
  . rw [if_neg hs,if_neg λ k=>hs (e.1 k),zT3 (by omega)]
theorem jc7 {T:List (List UInt8)} {t s:List UInt8} (hl:s.length<=t.length):flI (T++ [t]) s=flI T s:=by
 unfold flI;rw [List.length_append,List.length_singleton,flN,if_neg,zT3 (Nat.le_refl _)];intro h;have:=h.1;rw [y71] at this;omega
theorem xt1 {T:List (List UInt8)} {t s:List UInt8} (h:Gd T) (hs:s∈T):upI (T++ [t]) s=upI T s:=by
 unfold upI;refine yi6 ?_;by_cases e:s= []
 . subst e;exact hs
 . exact h.cl s hs e
theorem Xy7 {T:List (List UInt8)} {u b:Nat} (h:Gd T) (hu:u<T.length) (hb:b<256) (hl:∀ s∈T,s.length<=(etx T (u,b)).length):nds (T++ [etx T (u,b)])=nds T++ [(b,u,flI T (etx T (u,b)))]:=by
 unfold nds;rw [List.map_append];congr 1
 . refine List.map_congr_left λ s hs=> ?_
   unfold ndI;rw [xt1 h hs,jc7 (hl s hs)]
 . rw [List.map_singleton];unfold ndI;rw [jc7 (Nat.le_refl _)];congr 1;unfold upI;have e:(etx T (u,b)).dropLast=T.getD u []:=(by unfold etx;rw [List.dropLast_concat]);rw [e,yi6 (z32 hu),kt5 h.nd hu];unfold etx;rw [Jd5 _ hb]
def TP (L:List (List UInt8)) (n j:Nat):List (List UInt8):=tx L n++((eL L (tx L n) n).take j).map (etx (tx L n))
theorem qb9 (L:List (List UInt8)) (n:Nat):TP L n 0=tx L n:=by unfold TP;rw [List.take_zero,List.map_nil,List.append_nil]
theorem Q15 (L:List (List UInt8)) (n:Nat):TP L n (eL L (tx L n) n).length=tx L (n+1):=by unfold TP;rw [List.take_length,eL_tx];rfl
theorem qv5 (L:List (List UInt8)) (n j:Nat) (hj:j<=(eL L (tx L n) n).length):(TP L n j).length=(tx L n).length+j:=by
 unfold TP;rw [List.length_append,List.length_map,List.length_take];omega
theorem XS0 {L:List (List UInt8)} {n j:Nat} (hj:j<(eL L (tx L n) n).length):TP L n (j+1)=TP L n j++ [etx (TP L n j) (eL L (tx L n) n)[j]]:=by
 have hx:=Yi6.1 (List.getElem_mem hj);have e:etx (TP L n j) (eL L (tx L n) n)[j]=etx (tx L n) (eL L (tx L n) n)[j]:=yr5 hx.1;rw [e];unfold TP;rw [List.take_succ_eq_append_getElem hj,List.map_append,List.append_assoc];rfl
theorem XA5 {L:List (List UInt8)} {n j:Nat} {s:List UInt8} (h:s∈TP L n j):s.length<=n+1:=by
 unfold TP at h;rcases List.mem_append.1 h with h|h
 . have:=((YY6 L n s).1 h).1;omega
 . obtain⟨x,hx,rfl⟩:=List.mem_map.1 h;have h1:=Yi6.1 (List.mem_of_mem_take hx);unfold etx;rw [xJ1,h1.2.1];exact Nat.le_refl _
theorem qY8 {L:List (List UInt8)} {n j:Nat} (hj:j<(eL L (tx L n) n).length) (hg:Gd (TP L n j)):(eL L (tx L n) n)[j].1<(tx L n).length/\(eL L (tx L n) n)[j].2<256/\etx (TP L n j) (eL L (tx L n) n)[j]∉TP L n j/\(∀ s∈TP L n j,s.length<=(etx (TP L n j) (eL L (tx L n) n)[j]).length)/\(etx (TP L n j) (eL L (tx L n) n)[j]).dropLast∈TP L n j:=by
 have hx:=Yi6.1 (List.getElem_mem hj);have e:etx (TP L n j) (eL L (tx L n) n)[j]=etx (tx L n) (eL L (tx L n) n)[j]:=yr5 hx.1;have el:(etx (tx L n) (eL L (tx L n) n)[j]).length=n+1:=by unfold etx;rw [xJ1,hx.2.1]
 refine⟨hx.1,hx.2.2.1,?_,λ s hs=>by rw [e,el];exact XA5 hs,?_⟩
 . rw [e];intro k;unfold TP at k;rcases List.mem_append.1 k with k|k
   . have:=((YY6 L n _).1 k).1;omega
   . obtain⟨y,hy,he⟩:=List.mem_map.1 k;have hy1:=Yi6.1 (List.mem_of_mem_take hy);have:=YW6 (yJ3 L n) hy1.1 hx.1 hy1.2.2.1 hx.2.2.1 he;subst this;obtain⟨i,hi,he⟩:=List.mem_iff_getElem.1 hy;rw [List.length_take] at hi;rw [List.getElem_take] at he;have h1:=List.pairwise_iff_getElem.1 (k53 L (tx L n) n) i j (by omega) hj (by omega);rw [he] at h1;exact ltE.ir _ h1
 . rw [e];unfold etx;rw [List.dropLast_concat];unfold TP;exact List.mem_append_left _ (z32 hx.1)
theorem Gd.TP (L:List (List UInt8)) (n:Nat):∀ j,j<=(eL L (Go.Proofs.YtngepacmgabmaaaGreatDoor.tx L n) n).length->Gd (TP L n j)
 |0,_=>by rw [qb9];exact Gd.tx L n
 |j+1,h=>by
  have hg:=Gd.TP L n j (by omega);obtain⟨h1,h2,h3,h4,h5⟩:=qY8 (by omega:j<_) hg;rw [XS0 (by omega)];exact hg.snoc h3 h4 h5
theorem xG9 (L:List (List UInt8)) (n:Nat):tx L (n+1)=tx L n++lv L n (tx L n):=rfl
theorem jy5 {L:List (List UInt8)} {n:Nat} {w:List UInt8} (hw:w∈L) (hn:n<w.length):kd (Go.Proofs.YtngepacmgabmaaaGreatDoor.tx L (n+1)) ((edW (Go.Proofs.YtngepacmgabmaaaGreatDoor.tx L n) n w).1:Int) ((edW (Go.Proofs.YtngepacmgabmaaaGreatDoor.tx L n) n w).2:Int)=some (ix (Go.Proofs.YtngepacmgabmaaaGreatDoor.tx L (n+1)) (w.take (n+1))):=by
 have h1:=xH3 hw n;have h2:=xH3 hw (n+1)
 have e:etx (Go.Proofs.YtngepacmgabmaaaGreatDoor.tx L (n+1)) (edW (Go.Proofs.YtngepacmgabmaaaGreatDoor.tx L n) n w)=w.take (n+1):=by
  rw [xG9];rw [yr5 (x:=edW (Go.Proofs.YtngepacmgabmaaaGreatDoor.tx L n) n w) (KP1 h1)];unfold etx edW;rw [JA8 h1,<-Qn5 hn]
 have hlt:ix (Go.Proofs.YtngepacmgabmaaaGreatDoor.tx L n) (w.take n)<(Go.Proofs.YtngepacmgabmaaaGreatDoor.tx L (n+1)).length:=by
  rw [xG9];rw [List.length_append];exact Nat.lt_of_lt_of_le (KP1 h1) (Nat.le_add_right _ _)
 unfold kd;have e2:etx (Go.Proofs.YtngepacmgabmaaaGreatDoor.tx L (n+1)) (((edW (Go.Proofs.YtngepacmgabmaaaGreatDoor.tx L n) n w).1:Int).toNat,((edW (Go.Proofs.YtngepacmgabmaaaGreatDoor.tx L n) n w).2:Int).toNat)=w.take (n+1):=e;rw [e2,if_pos];exact⟨by omega,by unfold edW;dsimp only;omega,by omega,by have:=(w.getD n 0).toNat_lt;unfold edW;dsimp only;omega,h2⟩
theorem YX3 {L:List (List UInt8)} {n:Nat} {w:List UInt8} (hw:w∈L) (hn:¬n<w.length):ix (Go.Proofs.YtngepacmgabmaaaGreatDoor.tx L (n+1)) (w.take (n+1))=ix (Go.Proofs.YtngepacmgabmaaaGreatDoor.tx L n) (w.take n):=by
 rw [List.take_of_length_le (by omega),List.take_of_length_le (by omega)];rw [xG9];have h1:=xH3 hw n;rw [List.take_of_length_le (by omega)] at h1;exact yi6 h1
def enI (L:List (List UInt8)) (t:List UInt8):List Nat:=(List.range L.length).filter λ k=>(L.getD k []).isSuffixOf t
theorem YQ4 {L:List (List UInt8)} {t:List UInt8} {k:Nat}:k∈enI L t<->k<L.length/\L.getD k []<:+t:=by
 unfold enI;rw [List.mem_filter,List.mem_range,List.isSuffixOf_iff_suffix]
theorem kK6 (L:List (List UInt8)) (t:List UInt8):(enI L t).Pairwise (· < ·):=(jI4 _).sublist List.filter_sublist
def owI (L T:List (List UInt8)) (i:Nat):List Nat:=(List.range L.length).filter λ k=>decide (ix T (L.getD k [])=i)
theorem XW6 {L T:List (List UInt8)} {i k:Nat}:k∈owI L T i<->k<L.length/\ix T (L.getD k [])=i:=by
 unfold owI;rw [List.mem_filter,List.mem_range,decide_eq_true_eq]
theorem jW0 (L T:List (List UInt8)) (i:Nat):(owI L T i).Pairwise (· < ·):=(jI4 _).sublist List.filter_sublist
theorem J06 {L:List (List UInt8)} (hL:∀ w∈L,w≠ []):enI L []= []:=by
 rw [List.eq_nil_iff_forall_not_mem];intro k hk;obtain⟨h1,h2⟩:=YQ4.1 hk;exact hL _ (by rw [gD _ h1];exact List.getElem_mem h1) (List.suffix_nil.1 h2)
section
variable {L T:List (List UInt8)} {i:Nat}
theorem jw1 (h:Gd T) (hT:∀ w∈L,w∈T) (hL:∀ w∈L,w≠ []) (h0:0<i) (hi:i<T.length) (k:Nat):k∈enI L (T.getD i [])<->k∈enI L (T.getD (flI T (T.getD i [])) [])\/k∈owI L T i:=by
 have hne:T.getD i []≠ []:=λ e=>by
  have:=q75 h.nd hi h.po (by rw [e,h.he]);omega
 obtain⟨k1,k2,k3⟩:=h.fl hne;rw [YQ4,YQ4,XW6];constructor
 . rintro⟨hk,hs⟩;have hw:L.getD k []∈L:=(by rw [gD _ hk];exact List.getElem_mem hk);have hwT:=hT _ hw;rcases Nat.lt_or_eq_of_le hs.length_le with hl|hl
   . refine .inl ⟨hk,?_⟩;have h4:=k3 (ix T (L.getD k [])) (KP1 hwT) (Sf.of (by rw [JA8 hwT];exact hl) (by rw [JA8 hwT];exact hs));have h5:=h.le h4 k1;rw [JA8 hwT] at h5;exact List.suffix_of_suffix_length_le hs k2.suf h5
   . refine .inr ⟨hk,?_⟩;rw [hs.eq_of_length hl,kt5 h.nd hi]
 . rintro(⟨hk,hs⟩|⟨hk,hs⟩)
   . exact⟨hk,hs.trans k2.suf⟩
   . refine⟨hk,?_⟩;have hw:L.getD k []∈L:=(by rw [gD _ hk];exact List.getElem_mem hk);have e:T.getD i []=L.getD k []:=(by rw [<-hs];exact JA8 (hT _ hw));rw [e];exact List.suffix_refl _
theorem jM9 (h:Gd T) (hT:∀ w∈L,w∈T) (hL:∀ w∈L,w≠ []) (h0:0<i) (hi:i<T.length) {k:Nat} (h1:k∈enI L (T.getD (flI T (T.getD i [])) [])) (h2:k∈owI L T i):False:=by
 have hne:T.getD i []≠ []:=λ e=>by
  have:=q75 h.nd hi h.po (by rw [e,h.he]);omega
 obtain⟨k1,k2,k3⟩:=h.fl hne;obtain⟨hk,hs⟩:=YQ4.1 h1;have hw:L.getD k []∈L:=by rw [gD _ hk];exact List.getElem_mem hk
 have e:T.getD i []=L.getD k []:=by rw [<-(XW6.1 h2).2];exact JA8 (hT _ hw)
 have h4:=hs.length_le;have h5:=k2.1;rw [e] at h4 h5;omega
end
theorem jU8 {zs:List Int} {m:List Int} (hn:zs.Nodup) (hm:m.Pairwise (· < ·)) (h:∀ x,x∈zs<->x∈m):zs.mergeSort (λ x y=>decide (x<=y))=m:=by
 have hp:=List.mergeSort_perm zs (λ x y=>decide (x<=y));have hs:(zs.mergeSort λ x y=>decide (x<=y)).Pairwise (λ a b=>(decide (a<=b))=true):=List.pairwise_mergeSort (λ a b c h1 h2=>by simp at*;omega) (λ a b=>by simp;omega) zs;have hnd:(zs.mergeSort λ x y=>decide (x<=y)).Nodup:=hp.nodup_iff.2 hn;refine Xw8 (R:=λ a b:Int=>a<b) (λ _ _ _=>Int.lt_trans) (λ _=>Int.lt_irrefl _) ?_ hm λ x=>hp.mem_iff.trans (h x)
 refine List.Pairwise.imp₂ (λ a b h1 h2=> ?_) hs hnd;have h3:=of_decide_eq_true h1;omega
theorem x49:(Tryz.prog.info? 165).map (λ i=>(i.zero,i.size,i.bytes))=some (some (.agg #[.int .u8 0,.int .i64 0,.int .i64 0,.slice none 0 0]),4,48):=by kernel_rfl
theorem Ks8:(Tryz.prog.info? 210).map (λ i=>(i.zero,i.size,i.bytes))=some (some (.agg #[.int .i64 0,.int .u8 0]),2,16):=by kernel_rfl
def ndC (x:Nat×Nat×Nat):List Value:= [.int .u8 (x.1:Int),.int .i64 (x.2.1:Int),.int .i64 (x.2.2:Int),.slice none 0 0]
def nfl (D:List (Nat×Nat×Nat)):List Value:=D.flatMap ndC
theorem jR7 (D:List (Nat×Nat×Nat)):(nfl D).length=D.length*4:=by
 unfold nfl
 induction D with
 |nil=>rfl
 |cons x l ih=>rw [List.flatMap_cons,List.length_append,ih,List.length_cons];show 4+_=_;omega
theorem zv5 (l m:List (Nat×Nat×Nat)):nfl (l++m)=nfl l++nfl m:=List.flatMap_append
theorem YC5 {D:List (Nat×Nat×Nat)} {k j:Nat} (hk:k<D.length) (hj:j<4):(nfl D)[k*4+j]? =(ndC D[k])[j]? :=by
 have e:D=D.take k++D[k]::D.drop (k+1):=by rw [<-List.drop_eq_getElem_cons hk,List.take_append_drop]
 conv=>lhs;rw [e]
 have hc:nfl (D[k]::D.drop (k+1))=ndC D[k]++nfl (D.drop (k+1)):=List.flatMap_cons;rw [zv5,hc,List.getElem?_append_right (by rw [jR7,List.length_take];omega),jR7,List.length_take,Nat.min_eq_left (by omega),Nat.add_sub_cancel_left,List.getElem?_append_left (by show j<4;exact hj)]
def atV (aw:List Nat):List Value:=aw.map fun(a:Nat)=> .int .i64 (a:Int)
structure Mk (b0 gm gk ga:Nat) (nv:Value) (D:List (Nat×Nat×Nat)) (nK:Nat) (F:Int->Int->Option Nat) (aw:List Nat) (wr:World):Prop where
 mb:Blk wr gm 188 #[nv,.map (some gk),.slice (some ⟨ga,0,none⟩) aw.length aw.length]
 ow:wr.ownsRow b0 165 4 nv D.length (nfl D)
 em:EdgeM wr gk nK F
 ba:Blk wr ga 3 (atV aw).toArray
 nm:gm≠gk/\ga≠gk/\ga≠gm
 nn:nv.ownBlock≠some gm/\nv.ownBlock≠some gk/\nv.ownBlock≠some ga
 lo:b0<=gm/\b0<=gk/\b0<=ga
section
variable {b0 gm gk ga nK:Nat} {nv nv':Value} {D:List (Nat×Nat×Nat)} {F:Int->Int->Option Nat} {aw:List Nat} {w wr wr':World}
theorem Mk.step (h:Mk b0 gm gk ga nv D nK F aw wr) (hb:Below wr.heap.size wr wr'):Mk b0 gm gk ga nv D nK F aw wr':=
 ⟨Blk.below h.mb hb (Blk.lt h.mb),World.ownsRow.kept (row:=none) h.ow ⟨hb.os,hb.tape,hb.output,hb.size,λ k hk _=>hb.block k hk⟩ (by
  rcases h.ow.2 with⟨e,_⟩|⟨g,cap,cur,e,_⟩
  . rw [e];exact .inl rfl
  . rw [e];exact .inr (by simp [Value.ownBlock])),h.em.kept hb,Blk.below h.ba hb (Blk.lt h.ba),h.nm,h.nn,h.lo⟩
theorem Mk.drew (h:Mk b0 gm gk ga nv D nK F aw wr):Mk b0 gm gk ga nv D nK F aw wr.drew:=h.step (below_drewN (Below.refl _ _) 1)
theorem Mk.put (h:Mk b0 gm gk ga nv D nK F aw wr) {F':Int->Int->Option Nat} {n':Nat} (he:EdgeM wr' gk n' F') (hg:wr.grownBy wr' (some gk)):Mk b0 gm gk ga nv D n' F' aw wr':=by
 obtain⟨h1,h2,h3⟩:=h.nm;obtain⟨k1,k2,k3⟩:=h.nn;exact⟨h.mb.grown hg (by intro e;injection e with e;exact h1 e),World.ownsRow.kept h.ow hg (.inr k2),he,h.ba.grown hg (by intro e;injection e with e;exact h2 e),h.nm,h.nn,h.lo⟩
theorem Mk.form (h:Mk b0 gm gk ga nv D nK F aw wr) (hD:0<D.length):∃ g c,nv= .slice (some ⟨g,0,none⟩) D.length c/\b0<=g/\g<wr.heap.size:=by
 rcases h.ow.2 with⟨_,h0⟩|⟨g,cap,cur,e,hb,hg,_⟩
 . omega
 . exact⟨g,cap,e,hb,(Array.getElem?_eq_some_iff.1 hg).1⟩
theorem Mk.fl (h:Mk b0 gm gk ga nv D nK F aw wr) {ad:Addr} {c i:Nat} (hv:nv= .slice (some ad) D.length c) (hi:i<D.length):wr.cell? ⟨(ad.add (i*4)).block,(ad.add (i*4)).off+2,none⟩=some (.int .i64 (D[i].2.2:Int)):=by
 obtain⟨g,c',e,_,_⟩:=h.form (by omega);rw [hv] at e;injection e with e1 e2 e3;injection e1 with e1;subst e1;have h1:=World.ownsRow.cells h.ow (g:=g) (by rw [hv];rfl) (i*4+2) _ (YC5 hi (by omega))
 have e4:(⟨g,0,none⟩:Addr).add (i*4+2)=⟨((⟨g,0,none⟩:Addr).add (i*4)).block,((⟨g,0,none⟩:Addr).add (i*4)).off+2,none⟩:=by
  rw [<-jx6];generalize (⟨g,0,none⟩:Addr).add (i*4)=p;unfold Addr.add;rw [if_neg (by omega)]
 rw [<-e4];exact h1
theorem Mk.atw (h:Mk b0 gm gk ga nv D nK F aw wr) {i:Nat} (hi:i<aw.length):wr.cell? ((⟨ga,0,none⟩:Addr).add i)=some (.int .i64 (aw[i]:Int))/\wr.cell? ⟨ga,i,none⟩=some (.int .i64 (aw[i]:Int))/\wr.frozen? ⟨ga,i,none⟩=false/\wr.frozen? ((⟨ga,0,none⟩:Addr).add i)=false:=by
 have e1:(⟨ga,0,none⟩:Addr).add i=⟨ga,i,none⟩:=by
  by_cases h:i=0
  . subst h;rfl
  . simp [Addr.add,h]
 have h1:wr.cell? ⟨ga,i,none⟩=some (.int .i64 (aw[i]:Int)):=by
  rw [h.ba.cell i];unfold atV;simp [List.getElem?_eq_getElem hi]
 rw [e1];exact⟨h1,h1,h.ba.frozen i,h.ba.frozen i⟩
theorem yp8 (aw:List Nat) (i a:Nat):(atV aw).toArray.setIfInBounds i (.int .i64 (a:Int))=(atV (aw.set i a)).toArray:=by
 unfold atV;rw [List.map_set];simp
theorem Mk.setAt (h:Mk b0 gm gk ga nv D nK F aw wr) (i a:Nat):Mk b0 gm gk ga nv D nK F (aw.set i a) (wr.setCell ⟨ga,i,none⟩ (.int .i64 (a:Int))):=by
 obtain⟨h1,h2,h3⟩:=h.nm;obtain⟨k1,k2,k3⟩:=h.nn;refine⟨?_,World.ownsRow.kept (row:=some ga) h.ow ⟨rfl,rfl,rfl,by simp [World.setCell],λ k hk hk2=>Below.heap_setCell wr ⟨ga,i,none⟩ _ k (λ e=>hk2 (by rw [e]))⟩ (.inr k3),h.em.setCell (by dsimp only;omega) _,?_,h.nm,h.nn,h.lo⟩
 . rw [List.length_set];exact Blk.far h.mb (by dsimp only;omega) _
 . rw [<-yp8];exact h.ba.set_ i _
theorem Mk.app (h:Mk b0 gm gk ga nv D nK F aw wr) {x:Nat×Nat×Nat} (ho:wr'.ownsRow b0 165 4 nv' (D.length+1) (nfl D++ndC x)) (hg:Grew wr wr' nv nv'):Mk b0 gm gk ga nv' (D++ [x]) nK F aw (wr'.setCell ⟨gm,0,none⟩ nv'):=by
 obtain⟨h1,h2,h3⟩:=h.nm;obtain⟨k1,k2,k3⟩:=h.nn;have gmlt:=Blk.lt h.mb;have gklt:=h.em.lt;have galt:=Blk.lt h.ba;have m1:nv'.ownBlock≠some gm:=hg.off gmlt k1;have m2:nv'.ownBlock≠some gk:=hg.off gklt k2;have m3:nv'.ownBlock≠some ga:=hg.off galt k3;have e:nfl (D++ [x])=nfl D++ndC x:=by rw [zv5];unfold nfl;simp
 refine⟨?_,?_,?_,?_,h.nm,⟨m1,m2,m3⟩,h.lo⟩
 . exact(hg.blk h.mb k1).set_ 0 nv'
 . rw [e,List.length_append,List.length_singleton];exact World.ownsRow.kept (row:=some gm) ho ⟨rfl,rfl,rfl,by simp [World.setCell],λ k hk hk2=>Below.heap_setCell wr' ⟨gm,0,none⟩ nv' k (λ e=>hk2 (by rw [e]))⟩ (.inr m1)
 . exact(h.em.grown hg.grown (λ e=>k2 e.symm)).setCell (by dsimp only;omega) _
 . exact Blk.far (hg.blk h.ba k3) (by dsimp only;omega) _
end
theorem zd6 {w:World} {B:Nat} {v:Value} {l:List (Nat×Nat)} {ops:Array Oper} {rest:List Oper} {o:Oper} {a:Act} {Q:Exit->Act->World->Prop} (hgd:o.guard=none) (s x:Operand)
 (ho:o.op= .call {callee:= .builtin .append,args:=#[s,x],argTypes:=#[208,208]})
 (h:w.ownsRow B 210 2 v l.length (edF l)) (hs:a.eval s=v) (y:Nat×Nat) (hx:a.eval x= .slice (some ⟨w.heap.size,0,none⟩) 1 1) (hlen:l.length<=1000000) (hB:B<=w.heap.size) (n:Nat) (hn:l.length=n)
 (hK:∀ A c w',w'.ownsRow B 210 2 (.slice A (n+1) c) (n+1) (edF (l++ [y]))->Grew w w' v (.slice A (n+1) c)->wpList Tryz.prog ops Q rest (a.put o.dst (.slice A (n+1) c)) w'):
 wpList Tryz.prog ops Q (o::rest) a (w.alloc (.cells #[.int .i64 (y.1:Int),.int .u8 (y.2:Int)] 210)):=by
 subst hn;obtain⟨i0,hi0,hz0,hz1,hz2⟩:=info_parts Ks8
 refine zM8 (P:=Tryz.prog) (Q:=Q) (rest:=rest) (ops:=ops) hgd s x ho Tryz.underlying208 hi0 hz0 hz1 hz2 rfl (by decide) h hs [.int .i64 (y.1:Int),.int .u8 (y.2:Int)] 1 1 hx rfl (by
  intro u hu;simp only [List.mem_cons,List.not_mem_nil,or_false] at hu;rcases hu with rfl|rfl<;>rfl) (by unfold maxLen;omega) (by omega) hB λ v' w' h4 h5=> ?_
 have e:edF l++ [.int .i64 (y.1:Int),.int .u8 (y.2:Int)]=edF (l++ [y]):=by rw [J60];unfold edF;simp [edC]
 rw [e] at h4;rcases h4.2 with⟨_,h0⟩|⟨g,cap,cur,e1,_⟩
 . omega
 . subst e1;exact hK _ _ w' h4 h5
theorem yP5 {w:World} {B:Nat} {v:Value} {D:List (Nat×Nat×Nat)} {ops:Array Oper} {o:Oper} {a:Act} {K:Act->World->Prop} {Q:Exit->Act->World->Prop} {E:Prop} (hgd:o.guard=none) (p q:Operand)
 (hop:o.op= .call {callee:= .builtin .append,args:=#[p,q],argTypes:=#[132,132]})
 (h:w.ownsRow B 165 4 v D.length (nfl D)) (hs:a.eval p=v) (x:Nat×Nat×Nat)
 (hq:a.eval q= .slice (some ⟨w.heap.size,0,none⟩) 1 1) (hlen:D.length<=1000000) (hB:B<=w.heap.size) (n:Nat) (hn:D.length=n)
 (hK:∀ A c w',w'.ownsRow B 165 4 (.slice A (n+1) c) (n+1) (nfl D++ndC x)->Grew w w' v (.slice A (n+1) c)->K (a.put o.dst (.slice A (n+1) c)) w'):
 if Region.wanted o (yielded ops a.tmps)=true then Oper.wp Tryz.prog o a (w.alloc (.cells #[.int .u8 (x.1:Int),.int .i64 (x.2.1:Int),.int .i64 (x.2.2:Int),.slice none 0 0] 165)) K Q else E:=by
 subst hn;obtain⟨i0,hi0,hz0,hz1,hz2⟩:=info_parts x49
 refine xP0 (P:=Tryz.prog) (Q:=Q) (ops:=ops) hgd p q hop Tryz.underlying132 hi0 hz0 hz1 hz2 rfl (by decide) h hs [.int .u8 (x.1:Int),.int .i64 (x.2.1:Int),.int .i64 (x.2.2:Int),.slice none 0 0] 1 1 hq rfl (by
  intro u hu;simp only [List.mem_cons,List.not_mem_nil,or_false] at hu;rcases hu with rfl|rfl|rfl|rfl<;>rfl) (by unfold maxLen;omega) (by omega) hB λ v' w' h4 h5=> ?_
 rcases h4.2 with⟨_,h0⟩|⟨g,cap,cur,e1,_⟩
 . omega
 . subst e1;exact hK _ _ w' h4 h5
end Go.Proofs.YtngepacmgabmaaaGreatDoor
