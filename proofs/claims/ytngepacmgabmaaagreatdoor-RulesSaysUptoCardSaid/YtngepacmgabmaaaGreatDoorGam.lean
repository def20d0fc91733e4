/- Phrases' trees plainly: children, where ; Walk: (*phrase.maker).fail .. -/
import Derived.Test.YtngepacmgabmaaaGreatDoorGal
import Derived.Deep.RegionLaw
import Derived.Deep.CutBlock
namespace Go.Proofs.YtngepacmgabmaaaGreatDoor
open Go.RowKit
set_option linter.unusedVariables false
set_option linter.unusedSimpArgs false
structure Gd (T:List (List UInt8)):Prop where
 nd:T.Nodup
 so:T.Pairwise (λ a b=>a.length<=b.length)
 cl:∀ t∈T,t≠ []->t.dropLast∈T
 he:T.getD 0 []= []
 po:0<T.length
theorem Gd.tx (L:List (List UInt8)) (n:Nat):Gd (tx L n):=by
 refine⟨yJ3 L n,KW2 L n,λ t ht hne=> ?_,?_,JF6 L n⟩
 . obtain⟨h1,h2⟩:=(YY6 L n t).1 ht;obtain⟨u,c,rfl⟩:=zG7 hne;rw [List.dropLast_concat];rw [List.length_append] at h1;exact(YY6 L n u).2 ⟨by simp at h1;omega,.inr (yK6 (h2.resolve_left hne))⟩
 . obtain⟨T,e⟩:=jg4 L n;rw [e];rfl
section
variable {T:List (List UInt8)} {t:List UInt8}
theorem Gd.nil (h:Gd T): []∈T:=by rw [<-h.he];exact z32 h.po
theorem Gd.le (h:Gd T) {i j:Nat} (hij:i<=j) (hj:j<T.length):(T.getD i []).length<=(T.getD j []).length:=by
 rcases Nat.lt_or_eq_of_le hij with k|k
 . rw [gD _ hj,gD _ (Nat.lt_trans k hj)];exact List.pairwise_iff_getElem.1 h.so i j (Nat.lt_trans k hj) hj k
 . subst k;exact Nat.le_refl _
theorem Gd.snoc (h:Gd T) (hn:t∉T) (hl:∀ s∈T,s.length<=t.length) (hp:t.dropLast∈T):Gd (T++ [t]):=by
 refine⟨?_,?_,λ s hs hne=> ?_,?_,by rw [List.length_append];exact Nat.lt_of_lt_of_le h.po (Nat.le_add_right _ _)⟩
 . refine List.nodup_append.2 ⟨h.nd,List.nodup_cons.2 ⟨List.not_mem_nil,List.nodup_nil⟩,?_⟩;intro a ha b hb e;rw [List.mem_singleton] at hb;subst e;subst hb;exact hn ha
 . refine List.pairwise_append.2 ⟨h.so,List.pairwise_singleton _ _,?_⟩;intro a ha b hb;rw [List.mem_singleton] at hb;subst hb;exact hl a ha
 . rcases List.mem_append.1 hs with hs|hs
   . exact List.mem_append_left _ (h.cl s hs hne)
   . rw [List.mem_singleton] at hs;subst hs;exact List.mem_append_left _ hp
 . rw [Ji8 h.po];exact h.he
def Sf (T:List (List UInt8)) (t:List UInt8) (k:Nat):Prop:=(T.getD k []).length<t.length/\(T.getD k []).isSuffixOf t=true
instance (T:List (List UInt8)) (t:List UInt8) (k:Nat):Decidable (Sf T t k):=by unfold Sf;infer_instance
theorem Sf.suf {k:Nat} (h:Sf T t k):T.getD k []<:+t:=List.isSuffixOf_iff_suffix.1 h.2
theorem Sf.of {k:Nat} (h1:(T.getD k []).length<t.length) (h2:T.getD k []<:+t):Sf T t k:=⟨h1,List.isSuffixOf_iff_suffix.2 h2⟩
def flN (T:List (List UInt8)) (t:List UInt8):Nat->Nat
 |0=>0
 |m+1=>if Sf T t m then m else flN T t m
def flI (T:List (List UInt8)) (t:List UInt8):Nat:=flN T t T.length
theorem zx1:∀ {m k:Nat},k<m->Sf T t k->flN T t m<m/\Sf T t (flN T t m)/\∀ j,j<m->Sf T t j->j<=flN T t m
 |0,k,h,_=>absurd h (by omega)
 |m+1,k,h,hk=>by
  unfold flN;by_cases hm:Sf T t m
  . rw [if_pos hm];exact⟨by omega,hm,λ j hj _=>by omega⟩
  . rw [if_neg hm]
    have hkm:k<m:=by
     rcases Nat.lt_or_eq_of_le (Nat.le_of_lt_succ h) with q|q
     . exact q
     . subst q;exact absurd hk hm
    obtain⟨h1,h2,h3⟩:=zx1 hkm hk;refine⟨by omega,h2,λ j hj hs=> ?_⟩;rcases Nat.lt_or_eq_of_le (Nat.le_of_lt_succ hj) with q|q
    . exact h3 j q hs
    . subst q;exact absurd hs hm
theorem qG0:∀ {m:Nat},(∀ k,k<m->¬Sf T t k)->flN T t m=0
 |0,_=>rfl
 |m+1,h=>by
  unfold flN;rw [if_neg (h m (by omega))];exact qG0 λ k hk=>h k (by omega)
theorem yl4:flI T []=0:=qG0 λ k _ h=>absurd h.1 (Nat.not_lt_zero _)
theorem Gd.sf0 (h:Gd T) (hne:t≠ []):Sf T t 0:=Sf.of (by rw [h.he];exact List.length_pos_iff.2 hne) (by rw [h.he];exact List.nil_suffix)
theorem Gd.fl (h:Gd T) (hne:t≠ []):flI T t<T.length/\Sf T t (flI T t)/\∀ j,j<T.length->Sf T t j->j<=flI T t:=zx1 h.po (h.sf0 hne)
theorem Gd.fl_of (h:Gd T) {k:Nat} (hk:k<T.length) (hs:Sf T t k) (hm:∀ j,j<T.length->Sf T t j->(T.getD j []).length<=(T.getD k []).length):flI T t=k:=by
 obtain⟨h1,h2,h3⟩:=zx1 hk hs;have h4:=h3 k hk hs;have h5:=hm _ h1 h2;have h6:=h.le h4 h1;refine q75 h.nd h1 hk ?_;have h7:T.getD (flI T t) []<:+T.getD k []:=List.suffix_of_suffix_length_le h2.suf hs.suf h5;exact h7.eq_of_length (Nat.le_antisymm h5 h6)
end
theorem xJ1 (l:List UInt8) (c:UInt8):(l++ [c]).length=l.length+1:=by simp
def kd (T:List (List UInt8)) (u b:Int):Option Nat:=if 0<=u/\u<(T.length:Int)/\0<=b/\b<256/\etx T (u.toNat,b.toNat)∈T then some (ix T (etx T (u.toNat,b.toNat))) else none
theorem yr5 {T M:List (List UInt8)} {x:Nat×Nat} (h:x.1<T.length):etx (T++M) x=etx T x:=by unfold etx;rw [Ji8 h]
theorem YW6 {T:List (List UInt8)} (hn:T.Nodup) {x y:Nat×Nat} (hx:x.1<T.length) (hy:y.1<T.length) (hx2:x.2<256) (hy2:y.2<256) (h:etx T x=etx T y):x=y:=by
 unfold etx at h;have h1:=q75 hn hx hy (List.append_inj_left' h rfl);have h2:=List.append_inj_right' h rfl;injection h2 with h2;have h3:=xC5 hx2 hy2 h2;obtain⟨a,b⟩:=x;obtain⟨c,d⟩:=y;dsimp only at h1 h3;rw [h1,h3]
section
variable {T:List (List UInt8)} {u b:Nat}
theorem ZS5 (h:Gd T) (hu:u<T.length) (hb:b<256) (hn:etx T (u,b)∉T) (hl:∀ s∈T,s.length<=(etx T (u,b)).length) (u' b':Int):(if u'=(u:Int)/\b'=(b:Int) then some T.length else kd T u' b')=kd (T++ [etx T (u,b)]) u' b':=by
 by_cases he:u'=(u:Int)/\b'=(b:Int)
 . obtain⟨rfl,rfl⟩:=he;rw [if_pos ⟨rfl,rfl⟩];unfold kd;have e:etx (T++ [etx T (u,b)]) ((u:Int).toNat,(b:Int).toNat)=etx T (u,b):=yr5 hu;rw [e,if_pos ⟨by omega,by rw [List.length_append];omega,by omega,by omega,List.mem_append_right _ (List.mem_singleton.2 rfl)⟩,ZU7 hn]
 . rw [if_neg he];unfold kd;by_cases hr:0<=u'/\0<=b'/\b'<256
   . obtain⟨h0,hb0,hb1⟩:=hr;by_cases hlt:u'<(T.length:Int)
     . have hlt2:u'.toNat<T.length:=(by omega);have e:etx (T++ [etx T (u,b)]) (u'.toNat,b'.toNat)=etx T (u'.toNat,b'.toNat):=yr5 hlt2;rw [e];by_cases hm:etx T (u'.toNat,b'.toNat)∈T
       . rw [if_pos ⟨h0,hlt,hb0,hb1,hm⟩,if_pos ⟨h0,by rw [List.length_append];omega,hb0,hb1,List.mem_append_left _ hm⟩,yi6 hm]
       . rw [if_neg λ k=>hm k.2.2.2.2,if_neg];rintro⟨_,_,_,_,k⟩;rcases List.mem_append.1 k with k|k
         . exact hm k
         . rw [List.mem_singleton] at k;have:=YW6 h.nd hlt2 hu (by show b'.toNat<256;omega) hb k;simp only [Prod.mk.injEq] at this;exact he ⟨by omega,by omega⟩
     . rw [if_neg λ k=>hlt k.2.1,if_neg];rintro⟨_,k1,_,_,k⟩;rw [List.length_append,List.length_singleton] at k1;have hue:u'.toNat=T.length:=by omega
       have e:etx (T++ [etx T (u,b)]) (u'.toNat,b'.toNat)=etx T (u,b)++ [bt b'.toNat]:=by
        show (T++ [etx T (u,b)]).getD u'.toNat []++ [bt b'.toNat]=_;rw [hue,y71]
       rw [e] at k;rcases List.mem_append.1 k with k|k
       . have:=hl _ k;rw [List.length_append] at this;simp at this;omega
       . rw [List.mem_singleton] at k;have:=congrArg List.length k;rw [List.length_append] at this;simp at this
   . rw [if_neg λ k=>hr ⟨k.1,k.2.2.1,k.2.2.2.1⟩,if_neg λ k=>hr ⟨k.1,k.2.2.1,k.2.2.2.1⟩]
end
def fs (K:Int->Int->Option Nat) (FL:Nat->Nat) (b:Int):Nat->Nat->Nat
 |0,_=>0
 |m+1,a=>match K (a:Int) b with
  |some n=>n
  |none=>if a=0 then 0 else fs K FL b m (FL a)
def fsX (K:Int->Int->Option Nat) (FL:Nat->Nat) (u:Nat) (b:Int):Nat:=if u=0 then 0 else fs K FL b (FL u+1) (FL u)
theorem Z59 {K:Int->Int->Option Nat} {FL:Nat->Nat} {b:Int} {m a n:Nat} (h:K (a:Int) b=some n):fs K FL b (m+1) a=n:=by rw [fs,h]
theorem zK7 {K:Int->Int->Option Nat} {FL:Nat->Nat} {b:Int} {m a:Nat} (h:K (a:Int) b=none):fs K FL b (m+1) a=if a=0 then 0 else fs K FL b m (FL a):=by rw [fs,h]
theorem yd3 (K:Int->Int->Option Nat) (FL:Nat->Nat) (b:Int) {m n a:Nat} (h1:a<m) (h2:a<n) (hF:∀ i,0<i->i<=a->FL i<i):fs K FL b m a=fs K FL b n a:=by
 induction m generalizing n a with
 |zero=>omega
 |succ m ih=>
  cases n with
  |zero=>omega
  |succ n=>
   rw [fs,fs];cases K (a:Int) b with
   |some k=>rfl
   |none=>
    dsimp only;by_cases h0:a=0
    . rw [if_pos h0,if_pos h0]
    . rw [if_neg h0,if_neg h0];have h3:=hF a (by omega) (Nat.le_refl _);exact ih (by omega) (by omega) λ i hi hia=>hF i hi (by omega)
theorem Q16 {a s:List UInt8} {c:UInt8} (h:a<:+s++ [c]) (hne:a≠ []):∃ a',a=a'++ [c]/\a'<:+s:=by
 obtain⟨p,hp⟩:=h;obtain⟨u,d,rfl⟩:=zG7 hne;rw [<-List.append_assoc] at hp;have h1:=List.append_inj_left' hp rfl;have h2:=List.append_inj_right' hp rfl;injection h2 with h2;subst h2;exact⟨u,rfl,⟨p,h1⟩⟩
theorem qr5 {a s:List UInt8} (c:UInt8) (h:a<:+s):a++ [c]<:+s++ [c]:=by
 obtain⟨p,rfl⟩:=h;exact⟨p,by rw [List.append_assoc]⟩
section
variable {T:List (List UInt8)} {u b:Nat} {FL:Nat->Nat}
theorem Yt8 (h:Gd T) (hu:u<T.length) (hb:b<256) (hn:etx T (u,b)∉T) (hl:∀ s∈T,s.length<=(etx T (u,b)).length) (hF:∀ i,i<T.length->FL i=flI T (T.getD i [])):
 ∀ (m a:Nat),a<m->a<T.length->T.getD a []<:+T.getD u []->(T.getD a []).length<(T.getD u []).length->
  (∀ q∈T,q<:+T.getD u []->q.length<(T.getD u []).length->q++ [bt b]∈T->q.length<=(T.getD a []).length)->
  fs (kd (T++ [etx T (u,b)])) FL (b:Int) m a=flI T (etx T (u,b))
 |0,a,ham,_,_,_,_=>absurd ham (by omega)
 |m+1,a,ham,ha,hsuf,hlen,hmax=>by
  have hetx:etx (T++ [etx T (u,b)]) ((a:Int).toNat,(b:Int).toNat)=T.getD a []++ [bt b]:=yr5 (x:=(a,b)) ha
  have hmaxj:∀ j,j<T.length->Sf T (etx T (u,b)) j->T.getD j []= []\/∃ q,q∈T/\T.getD j []=q++ [bt b]/\q<:+T.getD u []/\q.length<(T.getD u []).length/\q.length<=(T.getD a []).length:=by
   intro j hj hs;by_cases hne:T.getD j []= []
   . exact .inl hne
   . obtain⟨q,e,hq⟩:=Q16 hs.suf hne
     have hqT:q∈T:=by
      have:=h.cl _ (z32 hj) hne;rw [e,List.dropLast_concat] at this;exact this
     have hql:q.length<(T.getD u []).length:=by
      have:=hs.1;rw [e] at this;unfold etx at this;rw [xJ1,xJ1] at this;exact Nat.lt_of_succ_lt_succ this
     exact .inr ⟨q,hqT,e,hq,hql,hmax q hqT hq hql (by rw [<-e];exact z32 hj)⟩
  by_cases hc:T.getD a []++ [bt b]∈T
  . have hK:kd (T++ [etx T (u,b)]) (a:Int) (b:Int)=some (ix T (T.getD a []++ [bt b])):=by
     unfold kd;rw [hetx,if_pos ⟨by omega,by rw [List.length_append];omega,by omega,by omega,List.mem_append_left _ hc⟩,yi6 hc]
    rw [Z59 hK];refine(h.fl_of (KP1 hc) (Sf.of ?_ ?_) λ j hj hs=> ?_).symm
    . rw [JA8 hc];unfold etx;rw [xJ1,xJ1];exact Nat.succ_lt_succ hlen
    . rw [JA8 hc];exact qr5 _ hsuf
    . rw [JA8 hc,xJ1];rcases hmaxj j hj hs with e|⟨q,_,e,_,_,hq⟩
      . rw [e];exact Nat.zero_le _
      . rw [e,xJ1];exact Nat.succ_le_succ hq
  . have hK:kd (T++ [etx T (u,b)]) (a:Int) (b:Int)=none:=by
     unfold kd;rw [hetx,if_neg];rintro⟨_,_,_,_,k⟩;rcases List.mem_append.1 k with k|k
     . exact hc k
     . rw [List.mem_singleton] at k;have:=congrArg List.length k;unfold etx at this;rw [xJ1,xJ1] at this;exact absurd (Nat.succ.inj this) (Nat.ne_of_lt hlen)
    rw [zK7 hK];by_cases h0:a=0
    . rw [if_pos h0];subst h0;refine(h.fl_of h.po (h.sf0 (by unfold etx;simp)) λ j hj hs=> ?_).symm;rcases hmaxj j hj hs with e|⟨q,_,e,_,_,hq⟩
      . rw [e];exact Nat.zero_le _
      . rw [h.he] at hq hc;have:q= []:=List.eq_nil_of_length_eq_zero (by simpa using hq);subst this;exact absurd (by rw [<-e];exact z32 hj) hc
    . rw [if_neg h0];have hpne:T.getD a []≠ []:=λ e=>h0 (q75 h.nd ha h.po (by rw [e,h.he]))
      obtain⟨k1,k2,k3⟩:=h.fl hpne;rw [hF a ha]
      have hka:flI T (T.getD a [])<a:=by
       refine Nat.lt_of_not_le λ hle=> ?_
       have h1:=h.le hle k1;have h2:=k2.1;omega
      refine Yt8 h hu hb hn hl hF m _ (by omega) k1 (k2.suf.trans hsuf) (Nat.lt_trans k2.1 hlen) λ q hqT hq hql hqb=> ?_
      have h1:=hmax q hqT hq hql hqb;have h2:q<:+T.getD a []:=List.suffix_of_suffix_length_le hq hsuf h1
      have h3:q.length<(T.getD a []).length:=by
       rcases Nat.lt_or_eq_of_le h1 with k|k
       . exact k
       . have:=h2.eq_of_length k;rw [this] at hqb;exact absurd hqb hc
      have h4:=k3 (ix T q) (KP1 hqT) (Sf.of (by rw [JA8 hqT];exact h3) (by rw [JA8 hqT];exact h2));have h5:=h.le h4 k1;rw [JA8 hqT] at h5;exact h5
theorem kD5 (h:Gd T) (hu:u<T.length) (hb:b<256) (hn:etx T (u,b)∉T) (hl:∀ s∈T,s.length<=(etx T (u,b)).length) (hF:∀ i,i<T.length->FL i=flI T (T.getD i [])):
 fsX (kd (T++ [etx T (u,b)])) FL u (b:Int)=flI T (etx T (u,b)):=by
 unfold fsX;by_cases h0:u=0
 . rw [if_pos h0];subst h0;refine(h.fl_of h.po (h.sf0 (by unfold etx;simp)) λ j hj hs=> ?_).symm;have h1:=hs.1;unfold etx at h1;rw [xJ1] at h1;dsimp only at h1;rw [h.he] at h1⊢;exact Nat.le_of_lt_succ h1
 . rw [if_neg h0];have hsne:T.getD u []≠ []:=λ e=>h0 (q75 h.nd hu h.po (by rw [e,h.he]))
   obtain⟨k1,k2,k3⟩:=h.fl hsne;rw [hF u hu];refine Yt8 h hu hb hn hl hF _ _ (Nat.lt_succ_self _) k1 k2.suf k2.1 λ q hqT hq hql _=> ?_
   have h4:=k3 (ix T q) (KP1 hqT) (Sf.of (by rw [JA8 hqT];exact hql) (by rw [JA8 hqT];exact hq));have h5:=h.le h4 k1;rw [JA8 hqT] at h5;exact h5
end
theorem kN5 {n:Nat} (h:n<9223372036854775808):(Lit.int .i64 (n:Int)).wf=true:=by
 simp [Lit.wf,IntKind.min,IntKind.max,IntKind.bits,IntKind.signed];omega
theorem wf_b {n:Nat} (h:n<256):(Lit.int .u8 (n:Int)).wf=true:=by
 simp [Lit.wf,IntKind.min,IntKind.max,IntKind.bits,IntKind.signed];omega
section
variable {w w':World} {g n:Nat} {F:Int->Int->Option Nat}
theorem EdgeM.drewN (h:EdgeM w g n F) (k:Nat):EdgeM (w.drewN k) g n F:=h
theorem EdgeM.look_run (h:EdgeM w g n F) (u b:Int) (hu:(Lit.int .i64 u).wf=true) (hb:(Lit.int .u8 b).wf=true):(Instr.lookup 186 (.map (some g)) (QQ6 u b) true).run Tryz.prog w= .ok (.tuple #[.int .i64 (((F u b).getD 0:Nat):Int),.bool (F u b).isSome]) w:=by
 obtain⟨D,h1,h2⟩:=h;obtain⟨e1,e2⟩:=h2 u b hu hb;obtain⟨v,ps,hrun,hv⟩:=h1.look_ok ks6 Tryz.underlying186 (yt4 w) (plainElem_int Tryz.underlying3 (by decide)) (X62 u b hu hb);obtain⟨c,rfl,hc,_⟩:=plainElem_int_inv Tryz.underlying3 hv;have hc:=congrArg Prod.fst hc;dsimp only at hc;rw [e2] at hc;simp only [DataW.lit.injEq,Lit.int.injEq,true_and] at hc;rw [hrun,e1,hc]
theorem EdgeM.get_run (h:EdgeM w g n F) (u b:Int) (hu:(Lit.int .i64 u).wf=true) (hb:(Lit.int .u8 b).wf=true):(Instr.lookup 186 (.map (some g)) (QQ6 u b) false).run Tryz.prog w= .ok (.int .i64 (((F u b).getD 0:Nat):Int)) w:=by
 obtain⟨D,h1,h2⟩:=h;obtain⟨e1,e2⟩:=h2 u b hu hb;obtain⟨c,hrun,hat,_⟩:=h1.lookup_int ks6 Tryz.underlying186 Tryz.underlying3 (yt4 w) (X62 u b hu hb);rw [e2] at hat;simp only [DataW.lit.injEq,Lit.int.injEq,true_and] at hat;rw [hrun,hat]
theorem EdgeM.put_run (h:EdgeM w g n F) (hn:n<maxLen) (u b:Int) (k:Nat) (hu:(Lit.int .i64 u).wf=true) (hb:(Lit.int .u8 b).wf=true) (hk:(Lit.int .i64 (k:Int)).wf=true):
 ∃ w',(Instr.mapUpdate 186 (.map (some g)) (QQ6 u b) (.int .i64 (k:Int))).run Tryz.prog w= .ok () w'/\EdgeM w' g (n+1) (zF8 F u b k)/\w.grownBy w' (some g):=by
 obtain⟨D,h1,h2⟩:=h;obtain⟨w',hrun,h3,h4⟩:=h1.update ks6 Tryz.underlying186 hn (X62 u b hu hb) (plainElem_int Tryz.underlying3 hk);refine⟨w',hrun,⟨_,h3,λ u' b' hu' hb'=> ?_⟩,h4⟩;have hkl:WideAt.IsKeyLit (Ze0 u b):=trivial;by_cases he:u'=u/\b'=b
 . obtain⟨rfl,rfl⟩:=he;unfold zF8;rw [if_pos ⟨rfl,rfl⟩];exact⟨Maps.has_put_same h1.isMap hkl _,Maps.atKey_put_same h1.isMap hkl _ _⟩
 . have hne:Ze0 u' b'≠Ze0 u b:=λ e=>he (qB8 hu' hb' hu hb e)
   unfold zF8;rw [if_neg he];rw [Maps.has_put_other hne,Maps.atKey_put_other hne];exact h2 u' b' hu' hb'
end
section
variable (w:World) (gm gk:Nat) (ad:Addr) (N cap nK u b:Nat) (atv:Value) (FL:Nat->Nat) (F:Int->Int->Option Nat)
set_option maxRecDepth 100000 in
set_option maxHeartbeats 2000000 in
theorem Xz1 (hm:Blk w gm 188 #[.slice (some ad) N cap,.map (some gk),atv]) (hn:∀ i,i<N->w.cell? ⟨(ad.add (i*4)).block,(ad.add (i*4)).off+2,none⟩=some (.int .i64 (FL i:Int))) (had:ad.block<w.heap.size) (em:EdgeM w gk nK F) (hN:N<=400) (hu:u<N) (hb:b<256) (hF:∀ i,i<N->FL i<N/\(0<i->FL i<i)):
 Calls Tryz.prog 167 #[.pointer (some ⟨gm,0,none⟩),.agg #[.int .i64 (u:Int),.int .u8 (b:Int)]] w λ e w'=>e= .returned (.int .i64 (fsX F FL u (b:Int):Int))/\Below w.heap.size w w':=by
 have hWB:Below w.heap.size w (w.alloc (.cells #[.int .i64 (u:Int),.int .u8 (b:Int)] 210)):=(Below.refl _ _).alloc (Nat.le_refl _) _;have hWE:=Blk.new w 210 #[.int .i64 (u:Int),.int .u8 (b:Int)];obtain⟨W,hW⟩:∃ W,w.alloc (.cells #[.int .i64 (u:Int),.int .u8 (b:Int)] 210)=W:=⟨_,rfl⟩;rw [hW] at hWB hWE;obtain⟨e0,e1⟩:=Blk.c2 hWE;have HWB:=qh hWB;have HWE:=qh hWE;have hmW:=Blk.below hm hWB hm.lt;have m0:=Blk.e0 hmW;have hblk:∀ i,(ad.add (i*4)).block<w.heap.size:=λ i=>by rw [ZE9];exact had
 have HNW:Hid (∀ w1,Below W.heap.size W w1->∀ i,i<N->w1.cell? ⟨(ad.add (i*4)).block,(ad.add (i*4)).off+2,none⟩=some (.int .i64 (FL i:Int))):=qh λ w1 hb1 i hi=>by
  have h1:=hWB.cell (p:=⟨(ad.add (i*4)).block,(ad.add (i*4)).off+2,none⟩) (hblk i);have h2:=hb1.cell (p:=⟨(ad.add (i*4)).block,(ad.add (i*4)).off+2,none⟩) (Nat.lt_of_lt_of_le (hblk i) hWB.size);rw [h2,h1,hn i hi]
 have HMW:=qh hmW;have HEM:=qh (em.kept hWB);have HFF:=qh hF;obtain⟨R,hR⟩:∃ R,R=fsX F FL u (b:Int):=⟨_,rfl⟩;rw [<-hR];have HR:=qh hR;have nu:=HNW.out W (Below.refl _ _) u hu;clear hm hn had em hF hWB hWE hmW hblk hR;by_cases h0:u=0
 . have HX:Hid (R=0):=qh (by rw [HR.out];unfold fsX;rw [if_pos h0]);have j0:((u:Int)==0)=true:=beq_iff_eq.2 (by omega);clear h0;go_enter Tryz.func167,Tryz.ntmps167;go_wp2_with fail;go_ret;exact⟨by rw [HX.out];rfl,HWB.out⟩
 . have HX:Hid (R=fs F FL (b:Int) (FL u+1) (FL u)):=qh (by rw [HR.out];unfold fsX;rw [if_neg h0]);have j0:((u:Int)==0)=false:=beq_eq_false_iff_ne.2 (by omega);have j1:(u:Int)<(N:Int):=(by omega);have j2:(0:Int)<=(u:Int):=(by omega);have hfu:=(HFF.out u hu).1;clear h0 HR;go_enter Tryz.func167,Tryz.ntmps167;go_wp2_with fail;go_quiet (fail)
   go_wp2_with fail;go_loopw [5] (λ v wr=>∃ a:Nat,v= .int .i64 (a:Int)/\a<N/\Hid (R=fs F FL (b:Int) (a+1) a)/\Hid (Below W.heap.size W wr)) (λ v _=>(intOf v).toNat)
   case atStart=>exact⟨FL u,rfl,hfu,HX,qh (below_drewN (Below.refl _ _) _)⟩
   case round=>
    clear HX nu m0 e0 e1;obtain⟨a,rfl,ha,HX,HB⟩:=hrel;obtain⟨e0,e1⟩:=Blk.c2 (Blk.below HWE.out HB.out HWE.out.lt);have hmr:=Blk.below HMW.out HB.out HMW.out.lt;obtain⟨m0,m1⟩:=Blk.c2 hmr;have hem:=HEM.out.kept HB.out;have na:=HNW.out wr HB.out a ha;have j3:(a:Int)<(N:Int):=(by omega);have j4:(0:Int)<=(a:Int):=(by omega);cases hK:F (a:Int) (b:Int) with
    |some k=>
     have HX2:Hid (R=k):=qh (by rw [HX.out,Z59 hK])
     have lk:∀ q,(Instr.lookup 186 (.map (some gk)) (.agg #[.int .i64 (a:Int),.int .u8 (b:Int)]) true).run Tryz.prog (wr.drewN q)= .ok (.tuple #[.int .i64 (k:Int),.bool true]) (wr.drewN q):=λ q=>by
      have:=(hem.drewN q).look_run (a:Int) (b:Int) (kN5 (by omega)) (wf_b hb);rw [hK] at this;exact this
     have lk0:=lk 0;have lk1:=lk 1;rw [World.drewN_zero] at lk0;clear hK hmr hem HX;go_wp2_with fail;go_quiet (fail)
     go_wp2_with fail;go_ret;exact⟨by rw [HX2.out];rfl,HWB.out.trans ((below_drewN HB.out _).mono HWB.out.size)⟩
    |none=>
     have lk:∀ q,(Instr.lookup 186 (.map (some gk)) (.agg #[.int .i64 (a:Int),.int .u8 (b:Int)]) true).run Tryz.prog (wr.drewN q)= .ok (.tuple #[.int .i64 0,.bool false]) (wr.drewN q):=λ q=>by
      have:=(hem.drewN q).look_run (a:Int) (b:Int) (kN5 (by omega)) (wf_b hb);rw [hK] at this;exact this
     have lk0:=lk 0;rw [World.drewN_zero] at lk0;by_cases ha0:a=0
     . have HX2:Hid (R=0):=qh (by rw [HX.out,zK7 hK,if_pos ha0]);have j5:((a:Int)==0)=true:=beq_iff_eq.2 (by omega);clear hK hmr hem HX ha0;go_wp2_with fail;go_quiet (fail)
       go_wp2_with fail;go_ret;exact⟨by rw [HX2.out];rfl,HWB.out.trans ((below_drewN HB.out _).mono HWB.out.size)⟩
     . have hfa:=HFF.out a ha;have hfl:=hfa.2 (by omega)
       have HX2:Hid (R=fs F FL (b:Int) (FL a+1) (FL a)):=qh (by
        rw [HX.out,zK7 hK,if_neg ha0];exact yd3 F FL (b:Int) hfl (Nat.lt_succ_self _) (λ i hi0 hia=>(HFF.out i (by omega)).2 hi0))
       have j5:((a:Int)==0)=false:=beq_eq_false_iff_ne.2 (by omega);clear hK hmr hem HX ha0;go_wp2_with fail;go_quiet (fail)
       go_wp2_with fail;go_roundw
       case rel=>exact⟨FL a,rfl,hfa.1,HX2,qh (below_drewN HB.out _)⟩
       case measure=>simp [intOf];omega
end
def edC (x:Nat×Nat):List Value:= [.int .i64 (x.1:Int),.int .u8 (x.2:Int)]
def edF (l:List (Nat×Nat)):List Value:=l.flatMap edC
theorem ZG1 (l:List (Nat×Nat)):(edF l).length=l.length*2:=by
 unfold edF
 induction l with
 |nil=>rfl
 |cons x l ih=>rw [List.flatMap_cons,List.length_append,ih,List.length_cons];show 2+_=_;omega
theorem J60 (l m:List (Nat×Nat)):edF (l++m)=edF l++edF m:=List.flatMap_append
theorem YS3 {l:List (Nat×Nat)} {k j:Nat} (hk:k<l.length) (hj:j<2):(edF l)[k*2+j]? =(edC l[k])[j]? :=by
 have e:l=l.take k++l[k]::l.drop (k+1):=by rw [<-List.drop_eq_getElem_cons hk,List.take_append_drop]
 conv=>lhs;rw [e]
 have hc:edF (l[k]::l.drop (k+1))=edC l[k]++edF (l.drop (k+1)):=List.flatMap_cons;rw [J60,hc,List.getElem?_append_right (by rw [ZG1,List.length_take];omega),ZG1,List.length_take,Nat.min_eq_left (by omega),Nat.add_sub_cancel_left,List.getElem?_append_left (by show j<2;exact hj)]
theorem yn0 {w:World} {B:Nat} {A:Option Addr} {l:List (Nat×Nat)} (h:Reads w B 2 A l.length (edF l)) {k:Nat} (hk:k<l.length):∃ ad,A=some ad/\ad.block<B/\w.cell? (ad.add (k*2))=some (.int .i64 (l[k].1:Int))/\w.cell? ⟨(ad.add (k*2)).block,(ad.add (k*2)).off+1,none⟩=some (.int .u8 (l[k].2:Int)):=by
 obtain⟨ad,e,hb,hc⟩:=h.2 (by omega)
 have key:∀ j,j<2->w.cell? ((ad.add (k*2)).add j)=(edC l[k])[j]? :=λ j hj=>by
  rw [jx6];have h1:=YS3 hk hj;have hj2:j<(edC l[k]).length:=hj;rw [List.getElem?_eq_getElem hj2] at h1⊢;exact hc _ _ h1
 refine⟨ad,e,hb,?_,?_⟩
 . have:=key 0 (by omega);rw [jx6] at this;exact this
 . have h1:=key 1 (by omega)
   have e1:(ad.add (k*2)).add 1=⟨(ad.add (k*2)).block,(ad.add (k*2)).off+1,none⟩:=by
    generalize ad.add (k*2)=p;unfold Addr.add;rw [if_neg (by omega)]
   rw [<-e1];exact h1
section
variable (l:List (Nat×Nat)) (A:Option Addr) (c B:Nat) (w:World) (x:Nat×Nat)
def IdxE2 (l:List (Nat×Nat)) (x:Nat×Nat) (w:World) (e:Ending) (w':World):Prop:=∃ r:Int,e= .returned (.int .i64 r)/\((r<0/\x∉l)\/(0<=r/\x∈l))/\Below w.heap.size w w'
set_option maxHeartbeats 1000000 in
theorem kc4 (hr:Reads w B 2 A l.length (edF l)) (hB:B<=w.heap.size) (hl:l.length<=1000000):
 Calls Tryz.prog 179 #[.slice A l.length c,.agg #[.int .i64 (x.1:Int),.int .u8 (x.2:Int)]] w (IdxE2 l x w):=by
 have hWB:Below w.heap.size w (w.alloc (.cells #[.int .i64 (x.1:Int),.int .u8 (x.2:Int)] 210)):=(Below.refl _ _).alloc (Nat.le_refl _) _;have hWE:=Blk.new w 210 #[.int .i64 (x.1:Int),.int .u8 (x.2:Int)];obtain⟨W,hW⟩:∃ W,w.alloc (.cells #[.int .i64 (x.1:Int),.int .u8 (x.2:Int)] 210)=W:=⟨_,rfl⟩;rw [hW] at hWB hWE;have HWB:=qh hWB;have HWE:=qh hWE;have HR:=qh λ w' (hb:Below w.heap.size w w')=>hr.below (hb.mono hB)
 clear hr hWB hWE;go_enter Tryz.func179,Tryz.ntmps179;go_wp2_with fail;go_loopw [8] (λ u wr=>∃ k:Nat,u= .int .i64 (k:Int)/\k<=l.length/\Hid (Below W.heap.size W wr)/\Hid (∀ j (hj:j<l.length),j<k->l[j]≠x)) (λ u _=>l.length-(intOf u).toNat)
 case atStart=>exact⟨0,rfl,by omega,qh (Below.refl _ _),λ j hj h=>absurd h (by omega)⟩
 case round=>
  obtain⟨k,rfl,hk,HB,HN⟩:=hrel;have HBw:=qh (HWB.out.trans (HB.out.mono HWB.out.size));by_cases hlt:k<l.length
  . have i1:(k:Int)<(l.length:Int):=(by omega);have i0:(0:Int)<=(k:Int):=(by omega);obtain⟨ad,rfl,hb,hc0,hc1⟩:=yn0 (HR.out wr HBw.out) hlt;obtain⟨e0,e1⟩:=Blk.c2 (Blk.below HWE.out HB.out HWE.out.lt);by_cases hv:l[k]=x
    . have HV:Hid (x∈l):=qh (by rw [<-hv];exact List.getElem_mem hlt);have d1:((x.1:Int)==(l[k].1:Int))=true:=(by rw [hv];exact beq_iff_eq.2 rfl);have d2:((x.2:Int)==(l[k].2:Int))=true:=(by rw [hv];exact beq_iff_eq.2 rfl);clear hv;go_wp2_with fail;go_quiet (fail)
      go_wp2_with fail;go_ret;exact⟨(k:Int),rfl,.inr ⟨by omega,HV.out⟩,below_drewN HBw.out _⟩
    . have HN2:Hid (∀ j (hj:j<l.length),j<k+1->l[j]≠x):=λ j hj h=>by
       by_cases e:j=k
       . subst e;exact hv
       . exact HN.out j hj (by omega)
      by_cases hv1:x.1=l[k].1
      focus
       have hv2:¬x.2=l[k].2:=λ h=>hv (Prod.ext hv1.symm h.symm)
       have d1:((x.1:Int)==(l[k].1:Int))=true:=beq_iff_eq.2 (by omega);have d2:((x.2:Int)==(l[k].2:Int))=false:=beq_eq_false_iff_ne.2 (by omega);clear hv hv1 hv2
      rotate_left
      focus
       have d1:((x.1:Int)==(l[k].1:Int))=false:=beq_eq_false_iff_ne.2 (by omega);clear hv hv1
      all_goals
       go_wp2_with fail;go_quiet (fail)
       go_wp2_with fail;go_roundw
       case rel=>exact⟨k+1,by go_num,by omega,qh (below_drewN HB.out _),HN2⟩
       case measure=>simp [intOf];omega
  . obtain rfl:k=l.length:=(by omega);clear hlt;go_wp2_with fail;go_ret
    exact⟨-1,rfl,.inl ⟨by omega,λ hx=>by
     obtain⟨i,hi,e⟩:=List.mem_iff_getElem.1 hx;exact HN.out i hi hi e⟩,HBw.out⟩
theorem q33 (hr:Reads w B 2 A l.length (edF l)) (hB:B<=w.heap.size) (hl:l.length<=1000000):
 Calls Tryz.prog 164 #[.slice A l.length c,.agg #[.int .i64 (x.1:Int),.int .u8 (x.2:Int)]] w λ e w'=>e= .returned (.bool (decide (x∈l)))/\Below w.heap.size w w':=by
 have hWB:Below w.heap.size w (w.alloc (.cells #[.int .i64 (x.1:Int),.int .u8 (x.2:Int)] 210)):=(Below.refl _ _).alloc (Nat.le_refl _) _;have hWE:=Blk.new w 210 #[.int .i64 (x.1:Int),.int .u8 (x.2:Int)];obtain⟨W,hW⟩:∃ W,w.alloc (.cells #[.int .i64 (x.1:Int),.int .u8 (x.2:Int)] 210)=W:=⟨_,rfl⟩;rw [hW] at hWB hWE;have C:=qh (kc4 l A c B W x (hr.below (hWB.mono hB)) (Nat.le_trans hB hWB.size) hl);obtain⟨e0,e1⟩:=Blk.c2 hWE;have HWB:=qh hWB;clear hr hWB hWE hl;go_enter Tryz.func164,Tryz.ntmps164;go_wp2_with fail;refine C.out.mono ?_;rintro e w1 ⟨r,rfl,hc,b1⟩;have HB:=qh (HWB.out.trans (b1.mono HWB.out.size));clear b1 C;rcases hc with⟨h1,h2⟩|⟨h1,h2⟩
 . have HT:=qh h2;have e1:decide ((0:Int)<=r)=false:=decide_eq_false (by omega);clear h1 h2;go_wp2_with fail;go_ret;exact⟨Kh9 (by rw [decide_eq_false HT.out]),HB.out⟩
 . have HT:=qh h2;have e1:decide ((0:Int)<=r)=true:=decide_eq_true h1;clear h1 h2;go_wp2_with fail;go_ret;exact⟨Kh9 (by rw [decide_eq_true HT.out]),HB.out⟩
end
end Go.Proofs.YtngepacmgabmaaaGreatDoor
