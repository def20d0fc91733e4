/- Plain: what phrase.Make's loops give; the maker's memory at the start and where the ends begin. -/
import Derived.Test.YtmkaghpnihlhcaaTrJ
import Derived.Test.YtmkaghpnihlhcaaTrK
namespace Go.Proofs.Ytmkaghpnihlhcaa
open Go.RowKit
set_option linter.unusedVariables false
set_option linter.unusedSimpArgs false
theorem tx_grow (L:List (List UInt8)) (n:Nat):(tx L n).length≤(tx L (n+1)).length:=by
 show (tx L n).length≤(tx L n++lv L n (tx L n)).length
 rw [List.length_append];omega
theorem tx_mono (L:List (List UInt8)) {n m:Nat} (h:n≤m):(tx L n).length≤(tx L m).length:=by
 induction h with
 |refl=>exact Nat.le_refl _
 |step _ ih=>exact Nat.le_trans ih (tx_grow L _)
theorem kd_zero (L:List (List UInt8)):kd (tx L 0)=fun _ _=>none:=by
 funext u b
 unfold kd
 rw [if_neg]
 rintro⟨_,_,_,_,h⟩
 have h1:etx (tx L 0) (u.toNat,b.toNat)= []:=List.mem_singleton.1 h
 unfold etx at h1
 have h2:=congrArg List.length h1
 rw [List.length_append] at h2
 simp at h2
theorem nds_zero (L:List (List UInt8)):nds (tx L 0)= [(0,0,0)]:=by
 show [ndI [[]] []]= [(0,0,0)]
 unfold ndI
 rw [flI_nil]
 rfl
theorem aw_zero (vs:List ByteArray):awL vs 0=List.replicate vs.length 0:=by
 unfold awL
 refine List.eq_replicate_iff.2 ⟨List.length_map _,fun x hx=> ?_⟩
 obtain⟨v,_,rfl⟩:=List.mem_map.1 hx
 rfl
structure Right (vs:List ByteArray):Prop where
 few:vs.length≤30
 pos:0<vs.length
 sz:∀ v∈vs,0<v.size∧v.size≤40
theorem right_of {vs:List ByteArray} (h:chkW vs=0):Right vs:=by
 by_cases h1:30<vs.length∨vs.any bigS=true
 · rw [chkW_large h1] at h;omega
 · by_cases h2:vs.length=0∨vs.any nilS=true
   · rw [chkW_arg h1 h2] at h;omega
   · refine⟨by omega,by omega,fun v hv=>⟨?_,?_⟩⟩
     · refine Nat.pos_of_ne_zero fun e=>h2 (.inr (List.any_eq_true.2 ⟨v,hv,?_⟩))
       unfold nilS;exact decide_eq_true e
     · refine Nat.le_of_not_lt fun e=>h1 (.inr (List.any_eq_true.2 ⟨v,hv,?_⟩))
       unfold bigS;exact decide_eq_true e
theorem Right.mem {vs:List ByteArray} (h:Right vs):∀ w∈wsL vs,w∈tx (wsL vs) 40:=fun w hw=>by
 obtain⟨v,hv,rfl⟩:=List.mem_map.1 hw
 exact(mem_tx _ _ _).2 ⟨(h.sz v hv).2,.inr (isPre_iff.2 ⟨_,hw,List.prefix_refl _⟩)⟩
theorem Right.ne {vs:List ByteArray} (h:Right vs):∀ w∈wsL vs,w≠ []:=fun w hw=>by
 obtain⟨v,hv,rfl⟩:=List.mem_map.1 hw
 intro e
 have h1:v.data.toList.length=0:=by rw [e];rfl
 have h2:=(h.sz v hv).1
 have h3:v.size=v.data.toList.length:=rfl
 omega
theorem nds_len (T:List (List UInt8)):(nds T).length=T.length:=List.length_map _
theorem nds_get {T:List (List UInt8)} {k:Nat} (hk:k<T.length):(nds T).getD k (0,0,0)=ndI T (T.getD k []):=by
 rw [gD _ (by rw [nds_len];exact hk),gD _ hk]
 unfold nds
 rw [List.getElem_map]
theorem nds_fl {T:List (List UInt8)} {k:Nat} (hk:k<T.length):((nds T).getD k (0,0,0)).2.2=flI T (T.getD k []):=by rw [nds_get hk];rfl
def owP (aw:List Nat) (i k:Nat):List Nat:=if i=0 then [] else (List.range k).filter fun q=>decide (aw.getD q 0=i)
theorem owP_zero (aw:List Nat) (i:Nat):owP aw i 0= []:=by unfold owP;split<;>rfl
theorem owP_add {aw:List Nat} {i k:Nat} (h0:i≠0) (h:aw.getD k 0=i):owP aw i (k+1)=owP aw i k++ [k]:=by
 unfold owP
 rw [if_neg h0,if_neg h0,List.range_succ,List.filter_append]
 congr 1
 rw [List.filter_cons,if_pos (decide_eq_true h)];rfl
theorem owP_stay {aw:List Nat} {i k:Nat} (h:i=0∨aw.getD k 0≠i):owP aw i (k+1)=owP aw i k:=by
 unfold owP
 by_cases h0:i=0
 · rw [if_pos h0,if_pos h0]
 · rw [if_neg h0,if_neg h0,List.range_succ,List.filter_append,List.filter_cons,if_neg (by rw [decide_eq_true_eq];exact h.resolve_left h0)]
   exact List.append_nil _
theorem owP_len (aw:List Nat) (i k:Nat):(owP aw i k).length≤k:=by
 unfold owP
 split
 · exact Nat.zero_le _
 · exact Nat.le_trans (List.length_filter_le _ _) (by rw [List.length_range];exact Nat.le_refl _)
theorem enI_len (L:List (List UInt8)) (t:List UInt8):(enI L t).length≤L.length:=Nat.le_trans (List.length_filter_le _ _) (by rw [List.length_range];exact Nat.le_refl _)
def enW (vs:List ByteArray) (k:Nat):List Nat:=enI (wsL vs) ((tx (wsL vs) 40).getD k [])
theorem enW_len (vs:List ByteArray) (k:Nat):(enW vs k).length≤vs.length:=by
 have:=enI_len (wsL vs) ((tx (wsL vs) 40).getD k [])
 rw [wsL_len] at this;exact this
theorem enW_zero {vs:List ByteArray} (h:Right vs):enW vs 0= []:=by
 unfold enW
 rw [(Gd.tx (wsL vs) 40).he]
 exact enI_nil h.ne
theorem owP_owI {vs:List ByteArray} (h:Right vs) {i:Nat} (h0:i≠0):owP (awL vs 40) i vs.length=owI (wsL vs) (tx (wsL vs) 40) i:=by
 unfold owP owI
 rw [if_neg h0,wsL_len]
 refine List.filter_congr fun q hq=> ?_
 have hq2:q<vs.length:=List.mem_range.1 hq
 have e1:(awL vs 40).getD q 0=ix (tx (wsL vs) 40) ((wsL vs).getD q []):=by
  rw [gD 0 (by rw [awL_len];exact hq2),awL_get hq2,gD [] (by rw [wsL_len];exact hq2),wsL_get hq2]
  rw [List.take_of_length_le]
  exact(h.sz _ (List.getElem_mem hq2)).2
 rw [e1]
theorem ends_made {vs:List ByteArray} (h:Right vs) {i:Nat} (hi:i<(tx (wsL vs) 40).length):
 (enW vs ((nds (tx (wsL vs) 40)).getD i (0,0,0)).2.2++owP (awL vs 40) i vs.length).Nodup∧(enW vs i).Pairwise (· < ·)∧
 (∀ x,x∈enW vs ((nds (tx (wsL vs) 40)).getD i (0,0,0)).2.2++owP (awL vs 40) i vs.length↔x∈enW vs i):=by
 have hg:=Gd.tx (wsL vs) 40
 have hfl:((nds (tx (wsL vs) 40)).getD i (0,0,0)).2.2=flI (tx (wsL vs) 40) ((tx (wsL vs) 40).getD i []):=nds_fl hi
 rw [hfl]
 have hs:=sorted_enI (wsL vs) ((tx (wsL vs) 40).getD i [])
 by_cases h0:i=0
 · subst h0
   have e1:owP (awL vs 40) 0 vs.length= []:=if_pos rfl
   rw [e1,List.append_nil,hg.he,flI_nil,enW_zero h]
   exact⟨List.nodup_nil,List.Pairwise.nil,fun x=>Iff.rfl⟩
 · rw [owP_owI h h0]
   refine⟨?_,hs,fun x=> ?_⟩
   · refine List.nodup_append.2 ⟨?_,?_,fun a ha b hb e=> ?_⟩
     · exact List.Pairwise.imp (fun h=>Nat.ne_of_lt h) (sorted_enI _ _)
     · exact List.Pairwise.imp (fun h=>Nat.ne_of_lt h) (sorted_owI _ _ _)
     · subst e
       exact ends_apart hg h.mem h.ne (by omega) hi ha hb
   · rw [List.mem_append]
     exact(ends_law hg h.mem h.ne (by omega) hi x).symm
theorem fl_low {vs:List ByteArray} {i:Nat} (hi:i<(tx (wsL vs) 40).length):((nds (tx (wsL vs) 40)).getD i (0,0,0)).2.2<(tx (wsL vs) 40).length∧(0<i→((nds (tx (wsL vs) 40)).getD i (0,0,0)).2.2<i)∧(i=0→((nds (tx (wsL vs) 40)).getD i (0,0,0)).2.2=0):=by
 have hg:=Gd.tx (wsL vs) 40
 have hfl:((nds (tx (wsL vs) 40)).getD i (0,0,0)).2.2=flI (tx (wsL vs) 40) ((tx (wsL vs) 40).getD i []):=nds_fl hi
 rw [hfl]
 by_cases h0:i=0
 · subst h0
   rw [hg.he,flI_nil]
   exact⟨hg.po,fun h=>absurd h (Nat.lt_irrefl _),fun _=>rfl⟩
 · have hne:(tx (wsL vs) 40).getD i []≠ []:=fun e=>by
    have:=get_inj hg.nd hi hg.po (by rw [e,hg.he])
    omega
   obtain⟨k1,k2,_⟩:=hg.fl hne
   refine⟨k1,fun _=>Nat.lt_of_not_le fun hle=> ?_,fun e=>absurd e h0⟩
   have h1:=hg.le hle k1
   have h2:=k2.1
   omega
theorem Mk.ends {b0 gm gk ga nK:Nat} {nv:Value} {D:List (Nat×Nat×Nat)} {F:Int→Int→Option Nat} {aw:List Nat} {wr:World} (h:Mk b0 gm gk ga nv D nK F aw wr) (hD:0<D.length) (EN:Nat→List Nat) (h0:EN 0= []):
 ∃ g c,nv= .slice (some ⟨g,0,none⟩) D.length c∧D.length≤c∧Ez b0 wr.heap.size gm gk g ga D.length c D aw 1 EN (fun _=> .slice none 0 0) wr:=by
 rcases h.ow.2 with⟨_,e⟩|⟨g,cap,cur,e,hg,hw,hnc,hcap,hsz,htk⟩
 · omega
 · have hgl:g<wr.heap.size:=(Array.getElem?_eq_some_iff.1 hw).1
   obtain⟨k1,k2,k3⟩:=h.nn
   have e1:g≠gm:=fun x=>k1 (by rw [e,x];rfl)
   have e3:g≠ga:=fun x=>k3 (by rw [e,x];rfl)
   have hmb:=h.mb
   rw [e] at hmb
   refine⟨g,cap,e,hnc,hmb,⟨cur,hw,fun k hk=> ?_⟩,h.ba,fun k hk=> ?_,⟨fun x=>e1 x.symm,fun x=>e3 x.symm⟩,⟨h.lo.1,hg,h.lo.2.2⟩,⟨Blk.lt h.mb,hgl,Blk.lt h.ba,Nat.le_refl _⟩⟩
   · have key:∀ j,j<4→cur[k*4+j]? =(ndC (D.getD k (0,0,0)))[j]? :=fun j hj=>by
      have h1:=nfl_get hk hj
      rw [←htk,List.getElem?_take_of_lt (by omega),Array.getElem?_toList] at h1
      rw [h1,gD _ hk]
     exact⟨key 0 (by omega),key 1 (by omega),key 2 (by omega),key 3 (by omega)⟩
   · obtain rfl:k=0:=by omega
     rw [h0]
     exact⟨OwI.nil _ _,fun x hx=>by cases hx⟩
end Go.Proofs.Ytmkaghpnihlhcaa
