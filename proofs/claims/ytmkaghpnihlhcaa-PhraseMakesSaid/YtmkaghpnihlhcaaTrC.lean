/- Phrases' trees plainly: children, where a failure leads, ends. -/
import Derived.Test.YtmkaghpnihlhcaaTrB
namespace Go.Proofs.Ytmkaghpnihlhcaa
set_option linter.unusedVariables false
set_option linter.unusedSimpArgs false
structure Gd (T:List (List UInt8)):Prop where
 nd:T.Nodup
 so:T.Pairwise (fun a b=>a.length≤b.length)
 cl:∀ t∈T,t≠ []→t.dropLast∈T
 he:T.getD 0 []= []
 po:0<T.length
theorem Gd.tx (L:List (List UInt8)) (n:Nat):Gd (tx L n):=by
 refine⟨nodup_tx L n,sorted_tx L n,fun t ht hne=> ?_,?_,tx_pos L n⟩
 · obtain⟨h1,h2⟩:=(mem_tx L n t).1 ht
   obtain⟨u,c,rfl⟩:=snoc_of hne
   rw [List.dropLast_concat]
   rw [List.length_append] at h1
   exact(mem_tx L n u).2 ⟨by simp at h1;omega,.inr (isPre_cut (h2.resolve_left hne))⟩
 · obtain⟨T,e⟩:=tx_head L n
   rw [e];rfl
section
variable {T:List (List UInt8)} {t:List UInt8}
theorem Gd.nil (h:Gd T): []∈T:=by rw [←h.he];exact get_mem h.po
theorem Gd.le (h:Gd T) {i j:Nat} (hij:i≤j) (hj:j<T.length):(T.getD i []).length≤(T.getD j []).length:=by
 rcases Nat.lt_or_eq_of_le hij with k|k
 · rw [gD _ hj,gD _ (Nat.lt_trans k hj)]
   exact List.pairwise_iff_getElem.1 h.so i j (Nat.lt_trans k hj) hj k
 · subst k;exact Nat.le_refl _
theorem Gd.snoc (h:Gd T) (hn:t∉T) (hl:∀ s∈T,s.length≤t.length) (hp:t.dropLast∈T):Gd (T++ [t]):=by
 refine⟨?_,?_,fun s hs hne=> ?_,?_,by rw [List.length_append];exact Nat.lt_of_lt_of_le h.po (Nat.le_add_right _ _)⟩
 · refine List.nodup_append.2 ⟨h.nd,List.nodup_cons.2 ⟨List.not_mem_nil,List.nodup_nil⟩,?_⟩
   intro a ha b hb e
   rw [List.mem_singleton] at hb
   subst e;subst hb
   exact hn ha
 · refine List.pairwise_append.2 ⟨h.so,List.pairwise_singleton _ _,?_⟩
   intro a ha b hb
   rw [List.mem_singleton] at hb
   subst hb
   exact hl a ha
 · rcases List.mem_append.1 hs with hs|hs
   · exact List.mem_append_left _ (h.cl s hs hne)
   · rw [List.mem_singleton] at hs
     subst hs
     exact List.mem_append_left _ hp
 · rw [get_app h.po];exact h.he
def Sf (T:List (List UInt8)) (t:List UInt8) (k:Nat):Prop:=(T.getD k []).length<t.length∧(T.getD k []).isSuffixOf t=true
instance (T:List (List UInt8)) (t:List UInt8) (k:Nat):Decidable (Sf T t k):=by unfold Sf;infer_instance
theorem Sf.suf {k:Nat} (h:Sf T t k):T.getD k []<:+t:=List.isSuffixOf_iff_suffix.1 h.2
theorem Sf.of {k:Nat} (h1:(T.getD k []).length<t.length) (h2:T.getD k []<:+t):Sf T t k:=⟨h1,List.isSuffixOf_iff_suffix.2 h2⟩
def flN (T:List (List UInt8)) (t:List UInt8):Nat→Nat
 |0=>0
 |m+1=>if Sf T t m then m else flN T t m
def flI (T:List (List UInt8)) (t:List UInt8):Nat:=flN T t T.length
theorem flN_spec:∀ {m k:Nat},k<m→Sf T t k→flN T t m<m∧Sf T t (flN T t m)∧∀ j,j<m→Sf T t j→j≤flN T t m
 |0,k,h,_=>absurd h (by omega)
 |m+1,k,h,hk=>by
  unfold flN
  by_cases hm:Sf T t m
  · rw [if_pos hm]
    exact⟨by omega,hm,fun j hj _=>by omega⟩
  · rw [if_neg hm]
    have hkm:k<m:=by
     rcases Nat.lt_or_eq_of_le (Nat.le_of_lt_succ h) with q|q
     · exact q
     · subst q;exact absurd hk hm
    obtain⟨h1,h2,h3⟩:=flN_spec hkm hk
    refine⟨by omega,h2,fun j hj hs=> ?_⟩
    rcases Nat.lt_or_eq_of_le (Nat.le_of_lt_succ hj) with q|q
    · exact h3 j q hs
    · subst q;exact absurd hs hm
theorem flN_none:∀ {m:Nat},(∀ k,k<m→¬Sf T t k)→flN T t m=0
 |0,_=>rfl
 |m+1,h=>by
  unfold flN
  rw [if_neg (h m (by omega))]
  exact flN_none fun k hk=>h k (by omega)
theorem flI_nil:flI T []=0:=flN_none fun k _ h=>absurd h.1 (Nat.not_lt_zero _)
theorem Gd.sf0 (h:Gd T) (hne:t≠ []):Sf T t 0:=Sf.of (by rw [h.he];exact List.length_pos_iff.2 hne) (by rw [h.he];exact List.nil_suffix)
theorem Gd.fl (h:Gd T) (hne:t≠ []):flI T t<T.length∧Sf T t (flI T t)∧∀ j,j<T.length→Sf T t j→j≤flI T t:=flN_spec h.po (h.sf0 hne)
theorem Gd.fl_of (h:Gd T) {k:Nat} (hk:k<T.length) (hs:Sf T t k) (hm:∀ j,j<T.length→Sf T t j→(T.getD j []).length≤(T.getD k []).length):flI T t=k:=by
 obtain⟨h1,h2,h3⟩:=flN_spec hk hs
 have h4:=h3 k hk hs
 have h5:=hm _ h1 h2
 have h6:=h.le h4 h1
 refine get_inj h.nd h1 hk ?_
 have h7:T.getD (flI T t) []<:+T.getD k []:=List.suffix_of_suffix_length_le h2.suf hs.suf h5
 exact h7.eq_of_length (Nat.le_antisymm h5 h6)
end
theorem len_snoc (l:List UInt8) (c:UInt8):(l++ [c]).length=l.length+1:=by simp
def kd (T:List (List UInt8)) (u b:Int):Option Nat:=if 0≤u∧u<(T.length:Int)∧0≤b∧b<256∧etx T (u.toNat,b.toNat)∈T then some (ix T (etx T (u.toNat,b.toNat))) else none
theorem etx_app {T M:List (List UInt8)} {x:Nat×Nat} (h:x.1<T.length):etx (T++M) x=etx T x:=by unfold etx;rw [get_app h]
theorem etx_inj {T:List (List UInt8)} (hn:T.Nodup) {x y:Nat×Nat} (hx:x.1<T.length) (hy:y.1<T.length) (hx2:x.2<256) (hy2:y.2<256) (h:etx T x=etx T y):x=y:=by
 unfold etx at h
 have h1:=get_inj hn hx hy (List.append_inj_left' h rfl)
 have h2:=List.append_inj_right' h rfl
 injection h2 with h2
 have h3:=bt_inj hx2 hy2 h2
 obtain⟨a,b⟩:=x
 obtain⟨c,d⟩:=y
 dsimp only at h1 h3
 rw [h1,h3]
section
variable {T:List (List UInt8)} {u b:Nat}
theorem kd_put (h:Gd T) (hu:u<T.length) (hb:b<256) (hn:etx T (u,b)∉T) (hl:∀ s∈T,s.length≤(etx T (u,b)).length) (u' b':Int):(if u'=(u:Int)∧b'=(b:Int) then some T.length else kd T u' b')=kd (T++ [etx T (u,b)]) u' b':=by
 by_cases he:u'=(u:Int)∧b'=(b:Int)
 · obtain⟨rfl,rfl⟩:=he
   rw [if_pos ⟨rfl,rfl⟩]
   unfold kd
   have e:etx (T++ [etx T (u,b)]) ((u:Int).toNat,(b:Int).toNat)=etx T (u,b):=etx_app hu
   rw [e,if_pos ⟨by omega,by rw [List.length_append];omega,by omega,by omega,List.mem_append_right _ (List.mem_singleton.2 rfl)⟩,ix_new hn]
 · rw [if_neg he]
   unfold kd
   by_cases hr:0≤u'∧0≤b'∧b'<256
   · obtain⟨h0,hb0,hb1⟩:=hr
     by_cases hlt:u'<(T.length:Int)
     · have hlt2:u'.toNat<T.length:=by omega
       have e:etx (T++ [etx T (u,b)]) (u'.toNat,b'.toNat)=etx T (u'.toNat,b'.toNat):=etx_app hlt2
       rw [e]
       by_cases hm:etx T (u'.toNat,b'.toNat)∈T
       · rw [if_pos ⟨h0,hlt,hb0,hb1,hm⟩,if_pos ⟨h0,by rw [List.length_append];omega,hb0,hb1,List.mem_append_left _ hm⟩,ix_app hm]
       · rw [if_neg fun k=>hm k.2.2.2.2,if_neg]
         rintro⟨_,_,_,_,k⟩
         rcases List.mem_append.1 k with k|k
         · exact hm k
         · rw [List.mem_singleton] at k
           have:=etx_inj h.nd hlt2 hu (by show b'.toNat<256;omega) hb k
           simp only [Prod.mk.injEq] at this
           exact he ⟨by omega,by omega⟩
     · rw [if_neg fun k=>hlt k.2.1,if_neg]
       rintro⟨_,k1,_,_,k⟩
       rw [List.length_append,List.length_singleton] at k1
       have hue:u'.toNat=T.length:=by omega
       have e:etx (T++ [etx T (u,b)]) (u'.toNat,b'.toNat)=etx T (u,b)++ [bt b'.toNat]:=by
        show (T++ [etx T (u,b)]).getD u'.toNat []++ [bt b'.toNat]=_
        rw [hue,get_new]
       rw [e] at k
       rcases List.mem_append.1 k with k|k
       · have:=hl _ k
         rw [List.length_append] at this
         simp at this
         omega
       · rw [List.mem_singleton] at k
         have:=congrArg List.length k
         rw [List.length_append] at this
         simp at this
   · rw [if_neg fun k=>hr ⟨k.1,k.2.2.1,k.2.2.2.1⟩,if_neg fun k=>hr ⟨k.1,k.2.2.1,k.2.2.2.1⟩]
end
def fs (K:Int→Int→Option Nat) (FL:Nat→Nat) (b:Int):Nat→Nat→Nat
 |0,_=>0
 |m+1,a=>match K (a:Int) b with
  |some n=>n
  |none=>if a=0 then 0 else fs K FL b m (FL a)
def fsX (K:Int→Int→Option Nat) (FL:Nat→Nat) (u:Nat) (b:Int):Nat:=if u=0 then 0 else fs K FL b (FL u+1) (FL u)
theorem fs_some {K:Int→Int→Option Nat} {FL:Nat→Nat} {b:Int} {m a n:Nat} (h:K (a:Int) b=some n):fs K FL b (m+1) a=n:=by rw [fs,h]
theorem fs_none {K:Int→Int→Option Nat} {FL:Nat→Nat} {b:Int} {m a:Nat} (h:K (a:Int) b=none):fs K FL b (m+1) a=if a=0 then 0 else fs K FL b m (FL a):=by rw [fs,h]
theorem fs_more (K:Int→Int→Option Nat) (FL:Nat→Nat) (b:Int) {m n a:Nat} (h1:a<m) (h2:a<n) (hF:∀ i,0<i→i≤a→FL i<i):fs K FL b m a=fs K FL b n a:=by
 induction m generalizing n a with
 |zero=>omega
 |succ m ih=>
  cases n with
  |zero=>omega
  |succ n=>
   rw [fs,fs]
   cases K (a:Int) b with
   |some k=>rfl
   |none=>
    dsimp only
    by_cases h0:a=0
    · rw [if_pos h0,if_pos h0]
    · rw [if_neg h0,if_neg h0]
      have h3:=hF a (by omega) (Nat.le_refl _)
      exact ih (by omega) (by omega) fun i hi hia=>hF i hi (by omega)
theorem suf_snoc {a s:List UInt8} {c:UInt8} (h:a<:+s++ [c]) (hne:a≠ []):∃ a',a=a'++ [c]∧a'<:+s:=by
 obtain⟨p,hp⟩:=h
 obtain⟨u,d,rfl⟩:=snoc_of hne
 rw [←List.append_assoc] at hp
 have h1:=List.append_inj_left' hp rfl
 have h2:=List.append_inj_right' hp rfl
 injection h2 with h2
 subst h2
 exact⟨u,rfl,⟨p,h1⟩⟩
theorem suf_put {a s:List UInt8} (c:UInt8) (h:a<:+s):a++ [c]<:+s++ [c]:=by
 obtain⟨p,rfl⟩:=h
 exact⟨p,by rw [List.append_assoc]⟩
section
variable {T:List (List UInt8)} {u b:Nat} {FL:Nat→Nat}
theorem fail_chain (h:Gd T) (hu:u<T.length) (hb:b<256) (hn:etx T (u,b)∉T) (hl:∀ s∈T,s.length≤(etx T (u,b)).length) (hF:∀ i,i<T.length→FL i=flI T (T.getD i [])):
 ∀ (m a:Nat),a<m→a<T.length→T.getD a []<:+T.getD u []→(T.getD a []).length<(T.getD u []).length→
  (∀ q∈T,q<:+T.getD u []→q.length<(T.getD u []).length→q++ [bt b]∈T→q.length≤(T.getD a []).length)→
  fs (kd (T++ [etx T (u,b)])) FL (b:Int) m a=flI T (etx T (u,b))
 |0,a,ham,_,_,_,_=>absurd ham (by omega)
 |m+1,a,ham,ha,hsuf,hlen,hmax=>by
  have hetx:etx (T++ [etx T (u,b)]) ((a:Int).toNat,(b:Int).toNat)=T.getD a []++ [bt b]:=etx_app (x:=(a,b)) ha
  have hmaxj:∀ j,j<T.length→Sf T (etx T (u,b)) j→T.getD j []= []∨∃ q,q∈T∧T.getD j []=q++ [bt b]∧q<:+T.getD u []∧q.length<(T.getD u []).length∧q.length≤(T.getD a []).length:=by
   intro j hj hs
   by_cases hne:T.getD j []= []
   · exact .inl hne
   · obtain⟨q,e,hq⟩:=suf_snoc hs.suf hne
     have hqT:q∈T:=by
      have:=h.cl _ (get_mem hj) hne
      rw [e,List.dropLast_concat] at this;exact this
     have hql:q.length<(T.getD u []).length:=by
      have:=hs.1
      rw [e] at this
      unfold etx at this
      rw [len_snoc,len_snoc] at this
      exact Nat.lt_of_succ_lt_succ this
     exact .inr ⟨q,hqT,e,hq,hql,hmax q hqT hq hql (by rw [←e];exact get_mem hj)⟩
  by_cases hc:T.getD a []++ [bt b]∈T
  · have hK:kd (T++ [etx T (u,b)]) (a:Int) (b:Int)=some (ix T (T.getD a []++ [bt b])):=by
     unfold kd
     rw [hetx,if_pos ⟨by omega,by rw [List.length_append];omega,by omega,by omega,List.mem_append_left _ hc⟩,ix_app hc]
    rw [fs_some hK]
    refine(h.fl_of (ix_lt hc) (Sf.of ?_ ?_) fun j hj hs=> ?_).symm
    · rw [ix_get hc]
      unfold etx
      rw [len_snoc,len_snoc]
      exact Nat.succ_lt_succ hlen
    · rw [ix_get hc]
      exact suf_put _ hsuf
    · rw [ix_get hc,len_snoc]
      rcases hmaxj j hj hs with e|⟨q,_,e,_,_,hq⟩
      · rw [e];exact Nat.zero_le _
      · rw [e,len_snoc]
        exact Nat.succ_le_succ hq
  · have hK:kd (T++ [etx T (u,b)]) (a:Int) (b:Int)=none:=by
     unfold kd
     rw [hetx,if_neg]
     rintro⟨_,_,_,_,k⟩
     rcases List.mem_append.1 k with k|k
     · exact hc k
     · rw [List.mem_singleton] at k
       have:=congrArg List.length k
       unfold etx at this
       rw [len_snoc,len_snoc] at this
       exact absurd (Nat.succ.inj this) (Nat.ne_of_lt hlen)
    rw [fs_none hK]
    by_cases h0:a=0
    · rw [if_pos h0]
      subst h0
      refine(h.fl_of h.po (h.sf0 (by unfold etx;simp)) fun j hj hs=> ?_).symm
      rcases hmaxj j hj hs with e|⟨q,_,e,_,_,hq⟩
      · rw [e];exact Nat.zero_le _
      · rw [h.he] at hq hc
        have:q= []:=List.eq_nil_of_length_eq_zero (by simpa using hq)
        subst this
        exact absurd (by rw [←e];exact get_mem hj) hc
    · rw [if_neg h0]
      have hpne:T.getD a []≠ []:=fun e=>h0 (get_inj h.nd ha h.po (by rw [e,h.he]))
      obtain⟨k1,k2,k3⟩:=h.fl hpne
      rw [hF a ha]
      have hka:flI T (T.getD a [])<a:=by
       refine Nat.lt_of_not_le fun hle=> ?_
       have h1:=h.le hle k1
       have h2:=k2.1
       omega
      refine fail_chain h hu hb hn hl hF m _ (by omega) k1 (k2.suf.trans hsuf) (Nat.lt_trans k2.1 hlen) fun q hqT hq hql hqb=> ?_
      have h1:=hmax q hqT hq hql hqb
      have h2:q<:+T.getD a []:=List.suffix_of_suffix_length_le hq hsuf h1
      have h3:q.length<(T.getD a []).length:=by
       rcases Nat.lt_or_eq_of_le h1 with k|k
       · exact k
       · have:=h2.eq_of_length k
         rw [this] at hqb
         exact absurd hqb hc
      have h4:=k3 (ix T q) (ix_lt hqT) (Sf.of (by rw [ix_get hqT];exact h3) (by rw [ix_get hqT];exact h2))
      have h5:=h.le h4 k1
      rw [ix_get hqT] at h5
      exact h5
theorem fail_law (h:Gd T) (hu:u<T.length) (hb:b<256) (hn:etx T (u,b)∉T) (hl:∀ s∈T,s.length≤(etx T (u,b)).length) (hF:∀ i,i<T.length→FL i=flI T (T.getD i [])):
 fsX (kd (T++ [etx T (u,b)])) FL u (b:Int)=flI T (etx T (u,b)):=by
 unfold fsX
 by_cases h0:u=0
 · rw [if_pos h0]
   subst h0
   refine(h.fl_of h.po (h.sf0 (by unfold etx;simp)) fun j hj hs=> ?_).symm
   have h1:=hs.1
   unfold etx at h1
   rw [len_snoc] at h1
   dsimp only at h1
   rw [h.he] at h1⊢
   exact Nat.le_of_lt_succ h1
 · rw [if_neg h0]
   have hsne:T.getD u []≠ []:=fun e=>h0 (get_inj h.nd hu h.po (by rw [e,h.he]))
   obtain⟨k1,k2,k3⟩:=h.fl hsne
   rw [hF u hu]
   refine fail_chain h hu hb hn hl hF _ _ (Nat.lt_succ_self _) k1 k2.suf k2.1 fun q hqT hq hql _=> ?_
   have h4:=k3 (ix T q) (ix_lt hqT) (Sf.of (by rw [ix_get hqT];exact hql) (by rw [ix_get hqT];exact hq))
   have h5:=h.le h4 k1
   rw [ix_get hqT] at h5
   exact h5
end
end Go.Proofs.Ytmkaghpnihlhcaa
