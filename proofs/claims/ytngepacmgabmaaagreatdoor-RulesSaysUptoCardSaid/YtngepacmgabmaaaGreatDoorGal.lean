/- Maps keyed by phrase.edge (a node and a ; Phrases' trees plainly: the texts by lev .. -/
import Derived.Test.YtngepacmgabmaaaGreatDoorGe
import Derived.Maps.OwnSet
import Derived.Maps.OwnOps
import Derived.DeepKeys4
namespace Go.Proofs.YtngepacmgabmaaaGreatDoor
open Go.RowKit
set_option linter.unusedVariables false
set_option linter.unusedSimpArgs false
section
open Go.Maps (Keyed)
theorem QD0:laidOutB Tryz.prog=true:=by kernel_rfl
theorem ZT2:(210:TypeId)<Tryz.prog.types.size:=of_decide_eq_true (by kernel_rfl)
theorem XF0:(match Tryz.prog.underlying 210 with|some (.array _ _)|some (.struct _)=>true|_=>false)=true:=by kernel_rfl
set_option maxRecDepth 100000 in
theorem ks6:Keyed Tryz.prog 210:=Keyed.of_law (deep_law_laid QD0 (m:=2) (by omega) ZT2 (by kernel_rfl) XF0)
theorem yt4 (w:World):(zeroValue 3).run Tryz.prog w= .ok (.int .i64 0) w:=by kernel_rfl
theorem jn4:Tryz.prog.cellsOf 210=2:=by kernel_rfl
theorem Qw7:Tryz.prog.cellsOf 3=1:=by kernel_rfl
theorem KO3:Tryz.prog.cellsOf 5=1:=by kernel_rfl
theorem KO5:Tryz.prog.keyType 210=true:=by kernel_rfl
abbrev QQ6 (u b:Int):Value:= .agg #[.int .i64 u,.int .u8 b]
theorem XY8 (d:Nat) (u b:Int) (hu:(Lit.int .i64 u).wf=true) (hb:(Lit.int .u8 b).wf=true):Tryz.prog.keyLits (d+2) 210 [.int .i64 u,.int .u8 b]=some [.int .i64 u,.int .u8 b]:=by
 simp [Program.keyLits,Tryz.underlying210,Tryz.underlying3,Tryz.underlying5,jn4,Qw7,KO3,hu,hb]
def Ze0 (u b:Int):Lit:= .string (keyBytes [.int .i64 u,.int .u8 b])
theorem X62 (u b:Int) (hu:(Lit.int .i64 u).wf=true) (hb:(Lit.int .u8 b).wf=true):keyOf Tryz.prog 210 (QQ6 u b)=some (Ze0 u b):=by
 obtain⟨d,hd⟩:∃ d,Tryz.prog.types.size+1=d+2:=⟨Tryz.prog.types.size-1,by have h:(210:Nat)<Tryz.prog.types.size:=ZT2;omega⟩;have hf:(QQ6 u b).formed Tryz.prog 210=true:=by simp [QQ6,Value.formed,Tryz.underlying210,jn4]
 have hc:(QQ6 u b).cells.toList= [.int .i64 u,.int .u8 b]:=by simp [QQ6,Value.cells]
 unfold keyOf;rw [Tryz.underlying210];simp only [KO5,hf,hc,hd,XY8 d u b hu hb,Bool.and_self,if_true,Option.map_some];rfl
theorem qB8 {u b u' b':Int} (hu:(Lit.int .i64 u).wf=true) (hb:(Lit.int .u8 b).wf=true) (hu':(Lit.int .i64 u').wf=true) (hb':(Lit.int .u8 b').wf=true) (h:Ze0 u b=Ze0 u' b'):u=u'/\b=b':=by
 have h1:=X62 u b hu hb;have h2:=X62 u' b' hu' hb';rw [h] at h1;have:=ks6.inj h1 h2;simp only [QQ6,Value.agg.injEq,Array.mk.injEq,List.cons.injEq,Value.int.injEq,true_and,and_true] at this;exact this
def EdgeM (w:World) (g n:Nat) (F:Int->Int->Option Nat):Prop:=
 ∃ D:DataW Unit,w.ownsMap Tryz.prog 210 (plainElem Tryz.prog 3) g n D/\∀ u b,(Lit.int .i64 u).wf=true->(Lit.int .u8 b).wf=true->Maps.has D (Ze0 u b)=(F u b).isSome/\D.atKey (Ze0 u b) (.lit (.int .i64 0))= .lit (.int .i64 (((F u b).getD 0:Nat):Int))
section
variable {w w':World} {g n:Nat} {F:Int->Int->Option Nat}
theorem EdgeM.made (w:World):EdgeM (w.alloc (.map #[] 0)) w.heap.size 0 (λ _ _=>none):=
 ⟨_,World.ownsMap_made w _ _ _,λ u b _ _=>⟨rfl,rfl⟩⟩
theorem EdgeM.grown {row:Option Nat} (h:EdgeM w g n F) (hg:w.grownBy w' row) (hne:some g≠row):EdgeM w' g n F:=by
 obtain⟨D,h1,h2⟩:=h;exact⟨D,h1.kept hg hne,h2⟩
theorem EdgeM.alloc (h:EdgeM w g n F) (o:Obj):EdgeM (w.alloc o) g n F:=by
 obtain⟨D,h1,h2⟩:=h;exact⟨D,h1.alloc o,h2⟩
theorem EdgeM.drew (h:EdgeM w g n F):EdgeM w.drew g n F:=h
theorem EdgeM.lt (h:EdgeM w g n F):g<w.heap.size:=by
 obtain⟨D,h1,h2⟩:=h;exact h1.lt
theorem EdgeM.kept (h:EdgeM w g n F) (hb:Below w.heap.size w w'):EdgeM w' g n F:=h.grown (Grew.of_below hb (.slice none 0 0)).grown (by simp [Value.ownBlock])
theorem EdgeM.setCell (h:EdgeM w g n F) {a:Addr} (ha:g≠a.block) (u:Value):EdgeM (w.setCell a u) g n F:=by
 obtain⟨D,h1,h2⟩:=h;exact⟨D,h1.setCell ha u,h2⟩
def zF8 (F:Int->Int->Option Nat) (u b:Int) (k:Nat):Int->Int->Option Nat:=λ u' b'=>if u'=u/\b'=b then some k else F u' b'
theorem EdgeM.put (h:EdgeM w g n F) (hn:n<maxLen) {ops:Array Oper} {rest:List Oper} {o:Oper} {a:Act} {Q:Exit->Act->World->Prop} (hg:o.guard=none) (m x v:Operand)
 (hop:o.op=Op.mapUpdate 186 m x v) (hm:a.eval m= .map (some g)) (u b:Int) (k:Nat) (hx:a.eval x=QQ6 u b) (hv:a.eval v= .int .i64 (k:Int)) (hu:(Lit.int .i64 u).wf=true) (hb:(Lit.int .u8 b).wf=true) (hk:(Lit.int .i64 (k:Int)).wf=true)
 (hK:∀ w',EdgeM w' g (n+1) (zF8 F u b k)->w.grownBy w' (some g)->wpList Tryz.prog ops Q rest (a.put o.dst undef) w'):wpList Tryz.prog ops Q (o::rest) a w:=by
 obtain⟨D,h1,h2⟩:=h;refine wpList_mapUpdate_own w hg m x v _ hop 210 3 ks6 Tryz.underlying186 _ g n D hm h1 hn _ _ (Ze0 u b) hx hv (X62 u b hu hb) _ [] (plainElem_int Tryz.underlying3 hk) λ w' h3 h4=>hK w' ⟨_,h3,λ u' b' hu' hb'=> ?_⟩ h4
 have hkl:WideAt.IsKeyLit (Ze0 u b):=trivial;by_cases he:u'=u/\b'=b
 . obtain⟨rfl,rfl⟩:=he;unfold zF8;rw [if_pos ⟨rfl,rfl⟩];exact⟨Maps.has_put_same h1.isMap hkl _,Maps.atKey_put_same h1.isMap hkl _ _⟩
 . have hne:Ze0 u' b'≠Ze0 u b:=λ e=>he (qB8 hu' hb' hu hb e)
   unfold zF8;rw [if_neg he];rw [Maps.has_put_other hne,Maps.atKey_put_other hne];exact h2 u' b' hu' hb'
end
end
def yI4 (L:List (List UInt8)) (t:List UInt8):Bool:=L.any λ w=>t.isPrefixOf w
def bt (b:Nat):UInt8:=b.toUInt8
def nxB (L:List (List UInt8)) (u:List UInt8):List Nat:=(List.range 256).filter λ b=>yI4 L (u++ [bt b])
def lvU (L:List (List UInt8)) (u:List UInt8):List (List UInt8):=(nxB L u).map λ b=>u++ [bt b]
def lv (L:List (List UInt8)) (n:Nat) (T:List (List UInt8)):List (List UInt8):=T.flatMap λ u=>if u.length=n then lvU L u else []
def tx (L:List (List UInt8)):Nat->List (List UInt8)
 |0=> [[]]
 |n+1=>tx L n++lv L n (tx L n)
theorem xC5 {a b:Nat} (ha:a<256) (hb:b<256) (h:bt a=bt b):a=b:=by
 have:=congrArg UInt8.toNat h;unfold bt at this;rw [UInt8.toNat_ofNat',UInt8.toNat_ofNat'] at this;omega
theorem jz5 (c:UInt8):bt c.toNat=c:=UInt8.ofNat_toNat
theorem ke1 {L:List (List UInt8)} {t:List UInt8}:yI4 L t=true<->∃ w∈L,t<+:w:=by
 unfold yI4;rw [List.any_eq_true];constructor
 . rintro⟨w,hw,h⟩;exact⟨w,hw,List.isPrefixOf_iff_prefix.1 h⟩
 . rintro⟨w,hw,h⟩;exact⟨w,hw,List.isPrefixOf_iff_prefix.2 h⟩
theorem yK6 {L:List (List UInt8)} {u:List UInt8} {c:UInt8} (h:yI4 L (u++ [c])=true):yI4 L u=true:=by
 obtain⟨w,hw,h⟩:=ke1.1 h;exact ke1.2 ⟨w,hw,(List.prefix_append u [c]).trans h⟩
theorem Kr5 {L:List (List UInt8)} {u:List UInt8} {b:Nat}:b∈nxB L u<->b<256/\yI4 L (u++ [bt b])=true:=by
 unfold nxB;rw [List.mem_filter,List.mem_range]
theorem xW2 {L:List (List UInt8)} {u t:List UInt8}:t∈lvU L u<->∃ c:UInt8,t=u++ [c]/\yI4 L t=true:=by
 unfold lvU;rw [List.mem_map];constructor
 . rintro⟨b,hb,rfl⟩;exact⟨bt b,rfl,(Kr5.1 hb).2⟩
 . rintro⟨c,rfl,h⟩;exact⟨c.toNat,Kr5.2 ⟨c.toNat_lt,by rw [jz5];exact h⟩,by rw [jz5]⟩
theorem yG4 {L:List (List UInt8)} {n:Nat} {T:List (List UInt8)} {t:List UInt8}:t∈lv L n T<->∃ u∈T,u.length=n/\∃ c:UInt8,t=u++ [c]/\yI4 L t=true:=by
 unfold lv;rw [List.mem_flatMap];constructor
 . rintro⟨u,hu,h⟩;by_cases e:u.length=n
   . rw [if_pos e] at h;exact⟨u,hu,e,xW2.1 h⟩
   . rw [if_neg e] at h;cases h
 . rintro⟨u,hu,e,h⟩;exact⟨u,hu,by rw [if_pos e];exact xW2.2 h⟩
theorem xO8 {L:List (List UInt8)} {n:Nat} {T:List (List UInt8)} {t:List UInt8} (h:t∈lv L n T):t.length=n+1:=by
 obtain⟨u,_,e,c,rfl,_⟩:=yG4.1 h;rw [List.length_append,e];rfl
theorem zG7 {t:List UInt8} (h:t≠ []):∃ u c,t=u++ [c]:=⟨t.dropLast,t.getLast h,(List.dropLast_concat_getLast h).symm⟩
theorem YY6 (L:List (List UInt8)):∀ (n:Nat) (t:List UInt8),t∈tx L n<->t.length<=n/\(t= []\/yI4 L t=true)
 |0,t=>by
  unfold tx;rw [List.mem_singleton];constructor
  . rintro rfl;exact⟨Nat.le_refl _,.inl rfl⟩
  . rintro⟨h,_⟩;exact List.eq_nil_of_length_eq_zero (by omega)
 |n+1,t=>by
  unfold tx;rw [List.mem_append,YY6 L n,yG4];constructor
  . rintro(⟨h1,h2⟩|⟨u,hu,e,c,rfl,h⟩)
    . exact⟨by omega,h2⟩
    . exact⟨by rw [List.length_append,e];exact Nat.le_refl _,.inr h⟩
  . rintro⟨h1,h2⟩;by_cases hl:t.length<=n
    . exact .inl ⟨hl,h2⟩
    . have hne:t≠ []:=(by rintro rfl;simp at hl);obtain⟨u,c,rfl⟩:=zG7 hne;rw [List.length_append] at h1 hl;have hlu:u.length=n:=(by simp at h1 hl;omega);rcases h2 with h2|h2
      . exact absurd h2 hne
      . exact .inr ⟨u,(YY6 L n u).2 ⟨by omega,.inr (yK6 h2)⟩,hlu,c,rfl,h2⟩
theorem kM6 (L:List (List UInt8)) (u:List UInt8):(nxB L u).Nodup:=List.nodup_range.sublist List.filter_sublist
theorem J25 (L:List (List UInt8)) (u:List UInt8):(lvU L u).Nodup:=by
 unfold lvU List.Nodup;rw [List.pairwise_map];refine List.Pairwise.imp_of_mem ?_ (kM6 L u);intro a b ha hb hne e;have e2:=List.append_inj_right' e rfl;have e3:bt a=bt b:=by injection e2
 exact hne (xC5 (Kr5.1 ha).1 (Kr5.1 hb).1 e3)
theorem qs5 {α β:Type} {f:α->List β}:∀ {T:List α},T.Nodup->(∀ a∈T,(f a).Nodup)->(∀ a∈T,∀ b∈T,a≠b->∀ x,x∈f a->x∈f b->False)->(T.flatMap f).Nodup
 | [],_,_,_=>List.nodup_nil
 |a::T,h,h1,h2=>by
  rw [List.flatMap_cons];obtain⟨ha,hT⟩:=List.nodup_cons.1 h;refine List.nodup_append.2 ⟨h1 a List.mem_cons_self,qs5 hT (λ b hb=>h1 b (List.mem_cons_of_mem _ hb)) (λ b hb c hc=>h2 b (List.mem_cons_of_mem _ hb) c (List.mem_cons_of_mem _ hc)),?_⟩;intro x hx y hy e;subst e;obtain⟨b,hb,hyb⟩:=List.mem_flatMap.1 hy;exact h2 a List.mem_cons_self b (List.mem_cons_of_mem _ hb) (λ e=>ha (by rw [e];exact hb)) x hx hyb
theorem qQ3 {L:List (List UInt8)} {n:Nat} {T:List (List UInt8)} (h:T.Nodup):(lv L n T).Nodup:=by
 unfold lv;refine qs5 h (λ u _=> ?_) λ u _ v _ hne t ht ht'=> ?_
 . split
   . exact J25 L u
   . exact List.nodup_nil
 . split at ht
   . split at ht'
     . obtain⟨c,e,_⟩:=xW2.1 ht;obtain⟨c',e',_⟩:=xW2.1 ht';rw [e] at e';exact hne (List.append_inj_left' e' rfl)
     . cases ht'
   . cases ht
theorem yJ3 (L:List (List UInt8)):∀ n,(tx L n).Nodup
 |0=>by unfold tx;exact List.nodup_cons.2 ⟨List.not_mem_nil,List.nodup_nil⟩
 |n+1=>by
  unfold tx;refine List.nodup_append.2 ⟨yJ3 L n,qQ3 (yJ3 L n),?_⟩;intro a ha b hb e;subst e;have h1:=((YY6 L n a).1 ha).1;have h2:=xO8 hb;omega
theorem KW2 (L:List (List UInt8)):∀ n,(tx L n).Pairwise (λ a b=>a.length<=b.length)
 |0=>by unfold tx;exact List.pairwise_singleton _ _
 |n+1=>by
  unfold tx;refine List.pairwise_append.2 ⟨KW2 L n,?_,?_⟩
  . refine List.Pairwise.imp_of_mem (R:=λ _ _=>True) ?_ (List.pairwise_of_forall λ _ _=>trivial);intro a b ha hb _;rw [xO8 ha,xO8 hb];exact Nat.le_refl _
  . intro a ha b hb;have h1:=((YY6 L n a).1 ha).1;have h2:=xO8 hb;omega
theorem jg4 (L:List (List UInt8)):∀ n,∃ T,tx L n= []::T
 |0=>⟨[],rfl⟩
 |n+1=>by
  obtain⟨T,e⟩:=jg4 L n;exact⟨T++lv L n (tx L n),by rw [tx,e];rfl⟩
theorem JF6 (L:List (List UInt8)) (n:Nat):0<(tx L n).length:=by
 obtain⟨T,e⟩:=jg4 L n;rw [e];exact Nat.succ_pos _
theorem gD {α:Type} {l:List α} (d:α) {i:Nat} (h:i<l.length):l.getD i d=l[i]:=by rw [List.getD_eq_getElem?_getD,List.getElem?_eq_getElem h];rfl
def ix (T:List (List UInt8)) (t:List UInt8):Nat:=T.idxOf t
theorem KP1 {T:List (List UInt8)} {t:List UInt8} (h:t∈T):ix T t<T.length:=List.idxOf_lt_length_of_mem h
theorem JA8 {T:List (List UInt8)} {t:List UInt8} (h:t∈T):T.getD (ix T t) []=t:=by
 have h1:=KP1 h;rw [gD _ h1];exact List.getElem_idxOf h1
theorem kt5 {T:List (List UInt8)} (hn:T.Nodup) {i:Nat} (hi:i<T.length):ix T (T.getD i [])=i:=by
 rw [gD _ hi];exact hn.idxOf_getElem i hi
theorem z32 {T:List (List UInt8)} {i:Nat} (hi:i<T.length):T.getD i []∈T:=by
 rw [gD _ hi];exact List.getElem_mem hi
theorem q75 {T:List (List UInt8)} (hn:T.Nodup) {i j:Nat} (hi:i<T.length) (hj:j<T.length) (h:T.getD i []=T.getD j []):i=j:=by
 rw [<-kt5 hn hi,h,kt5 hn hj]
theorem yi6 {T M:List (List UInt8)} {t:List UInt8} (h:t∈T):ix (T++M) t=ix T t:=by
 unfold ix;rw [List.idxOf_append,if_pos h]
theorem ZU7 {T:List (List UInt8)} {t:List UInt8} (h:t∉T):ix (T++ [t]) t=T.length:=by
 unfold ix;rw [List.idxOf_append,if_neg h,List.idxOf_cons_self];omega
theorem Ji8 {T M:List (List UInt8)} {i:Nat} (hi:i<T.length):(T++M).getD i []=T.getD i []:=by
 rw [gD _ hi,gD _ (by rw [List.length_append];omega),List.getElem_append_left hi]
theorem y71 (T:List (List UInt8)) (t:List UInt8):(T++ [t]).getD T.length []=t:=by
 rw [gD _ (by simp),List.getElem_append_right (Nat.le_refl _)];simp
def eU (L T:List (List UInt8)) (n u:Nat):List (Nat×Nat):=if (T.getD u []).length=n then (nxB L (T.getD u [])).map λ b=>(u,b) else []
def eL (L T:List (List UInt8)) (n:Nat):List (Nat×Nat):=(List.range T.length).flatMap λ u=>eU L T n u
def etx (T:List (List UInt8)) (x:Nat×Nat):List UInt8:=T.getD x.1 []++ [bt x.2]
theorem QS5 {L T:List (List UInt8)} {n u:Nat} {x:Nat×Nat}:x∈eU L T n u<->x.1=u/\(T.getD u []).length=n/\x.2<256/\yI4 L (T.getD u []++ [bt x.2])=true:=by
 unfold eU;split
 . rename_i e
   rw [List.mem_map];constructor
   . rintro⟨b,hb,rfl⟩;exact⟨rfl,e,Kr5.1 hb⟩
   . rintro⟨h1,h2,h3⟩;exact⟨x.2,Kr5.2 h3,by rw [<-h1]⟩
 . rename_i e
   constructor
   . intro h;cases h
   . rintro⟨_,h,_⟩;exact absurd h e
theorem Yi6 {L T:List (List UInt8)} {n:Nat} {x:Nat×Nat}:x∈eL L T n<->x.1<T.length/\(T.getD x.1 []).length=n/\x.2<256/\yI4 L (etx T x)=true:=by
 unfold eL etx;rw [List.mem_flatMap];constructor
 . rintro⟨u,hu,h⟩;obtain⟨rfl,h⟩:=QS5.1 h;exact⟨List.mem_range.1 hu,h⟩
 . rintro⟨h1,h⟩;exact⟨x.1,List.mem_range.2 h1,QS5.2 ⟨rfl,h⟩⟩
theorem J36 {α:Type} (f:List UInt8->List α):∀ T:List (List UInt8),(List.range T.length).flatMap (λ u=>f (T.getD u []))=T.flatMap f
 | []=>rfl
 |t::T=>by
  rw [List.length_cons,List.range_succ_eq_map,List.flatMap_cons,List.flatMap_map,List.flatMap_cons];rw [<-J36 f T];rfl
theorem xQ4 {α β γ:Type} (g:β->γ) (f:α->List β) (l:List α):(l.flatMap f).map g=l.flatMap λ a=>(f a).map g:=List.map_flatMap
theorem eL_tx (L T:List (List UInt8)) (n:Nat):(eL L T n).map (etx T)=lv L n T:=by
 unfold eL lv;rw [xQ4,<-J36];refine congrArg (λ f=>(List.range T.length).flatMap f) (funext λ u=> ?_);unfold eU;split
 . unfold lvU etx;rw [List.map_map];rfl
 . rfl
def ltE (x y:Nat×Nat):Prop:=x.1<y.1\/(x.1=y.1/\x.2<y.2)
theorem ltE.tr {x y z:Nat×Nat} (h:ltE x y) (k:ltE y z):ltE x z:=by
 unfold ltE at*;omega
theorem ltE.ir (x:Nat×Nat):¬ltE x x:=by unfold ltE;omega
theorem ltE.tot (x y:Nat×Nat):ltE x y\/x=y\/ltE y x:=by
 obtain⟨a,b⟩:=x;obtain⟨c,d⟩:=y;unfold ltE;by_cases h:a=c/\b=d
 . obtain⟨rfl,rfl⟩:=h;exact .inr (.inl rfl)
 . simp only [Prod.mk.injEq];omega
theorem jI4 (m:Nat):(List.range m).Pairwise (· < ·):=List.pairwise_lt_range
theorem zz7 (L T:List (List UInt8)) (n u:Nat):(eU L T n u).Pairwise ltE:=by
 unfold eU;split
 . rw [List.pairwise_map];refine List.Pairwise.imp (λ h=> ?_) ((jI4 256).sublist (List.filter_sublist (p:=λ b=>yI4 L (T.getD u []++ [bt b]))));exact .inr ⟨rfl,h⟩
 . exact List.Pairwise.nil
theorem xT6 {α β:Type} {R:β->β->Prop} {f:α->List β}:∀ {l:List α},(∀ a∈l,(f a).Pairwise R)->l.Pairwise (λ a b=>∀ x∈f a,∀ y∈f b,R x y)->(l.flatMap f).Pairwise R
 | [],_,_=>List.Pairwise.nil
 |a::l,h1,h2=>by
  rw [List.flatMap_cons];obtain⟨ha,hl⟩:=List.pairwise_cons.1 h2;refine List.pairwise_append.2 ⟨h1 a List.mem_cons_self,xT6 (λ b hb=>h1 b (List.mem_cons_of_mem _ hb)) hl,?_⟩;intro x hx y hy;obtain⟨b,hb,hyb⟩:=List.mem_flatMap.1 hy;exact ha b hb x hx y hyb
theorem k53 (L T:List (List UInt8)) (n:Nat):(eL L T n).Pairwise ltE:=by
 unfold eL;refine xT6 (λ u _=>zz7 L T n u) ((jI4 _).imp ?_);intro u v h x hx y hy;have h1:=(QS5.1 hx).1;have h2:=(QS5.1 hy).1;exact .inl (by omega)
theorem Xw8 {α:Type} {R:α->α->Prop} (tr:∀ a b c,R a b->R b c->R a c) (ir:∀ a,¬R a a):∀ {l m:List α},l.Pairwise R->m.Pairwise R->(∀ x,x∈l<->x∈m)->l=m
 | [],[],_,_,_=>rfl
 | [],b::m,_,_,h=>absurd ((h b).2 List.mem_cons_self) List.not_mem_nil
 |a::l,[],_,_,h=>absurd ((h a).1 List.mem_cons_self) List.not_mem_nil
 |a::l,b::m,h1,h2,h=>by
  obtain⟨ha,hl⟩:=List.pairwise_cons.1 h1;obtain⟨hb,hm⟩:=List.pairwise_cons.1 h2
  have hab:a=b:=by
   rcases List.mem_cons.1 ((h a).1 List.mem_cons_self) with e|k1
   . exact e
   . rcases List.mem_cons.1 ((h b).2 List.mem_cons_self) with e|k2
     . exact e.symm
     . exact absurd (tr _ _ _ (ha b k2) (hb a k1)) (ir a)
  subst hab;congr 1;refine Xw8 tr ir hl hm λ x=> ?_
  constructor
  . intro hx;rcases List.mem_cons.1 ((h x).1 (List.mem_cons_of_mem _ hx)) with e|k
    . subst e;exact absurd (ha x hx) (ir x)
    . exact k
  . intro hx;rcases List.mem_cons.1 ((h x).2 (List.mem_cons_of_mem _ hx)) with e|k
    . subst e;exact absurd (hb x hx) (ir x)
    . exact k
def X89 (l:List (Nat×Nat)) (x:Nat×Nat):List (Nat×Nat):=if x∈l then l else l++ [x]
def edW (T:List (List UInt8)) (n:Nat) (w:List UInt8):Nat×Nat:=(ix T (w.take n),(w.getD n 0).toNat)
def lE (T:List (List UInt8)) (n:Nat) (L:List (List UInt8)):List (Nat×Nat):=L.foldl (λ l w=>if n<w.length then X89 l (edW T n w) else l) []
theorem KG6 (T:List (List UInt8)) (n:Nat) (L:List (List UInt8)) (w:List UInt8):lE T n (L++ [w])=if n<w.length then X89 (lE T n L) (edW T n w) else lE T n L:=by
 unfold lE;rw [List.foldl_append];rfl
theorem Zo0 {l:List (Nat×Nat)} {x y:Nat×Nat}:y∈X89 l x<->y∈l\/y=x:=by
 unfold X89;split
 . rename_i h
   exact⟨.inl,λ k=>k.elim id λ e=>by rw [e];exact h⟩
 . rw [List.mem_append,List.mem_singleton]
theorem jC3 {l:List (Nat×Nat)} {x:Nat×Nat} (h:l.Nodup):(X89 l x).Nodup:=by
 unfold X89;split
 . exact h
 . rename_i hx
   refine List.nodup_append.2 ⟨h,List.nodup_cons.2 ⟨List.not_mem_nil,List.nodup_nil⟩,?_⟩;intro a ha b hb e;rw [List.mem_singleton] at hb;subst e;subst hb;exact hx ha
theorem qr4 (T:List (List UInt8)) (n:Nat):∀ (L:List (List UInt8)) (l:List (Nat×Nat)),l.Nodup->(L.foldl (λ l w=>if n<w.length then X89 l (edW T n w) else l) l).Nodup/\∀ x,x∈L.foldl (λ l w=>if n<w.length then X89 l (edW T n w) else l) l<->x∈l\/∃ w∈L,n<w.length/\x=edW T n w
 | [],l,h=>⟨h,λ x=>⟨.inl,λ k=>k.elim id fun⟨w,hw,_⟩=>absurd hw List.not_mem_nil⟩⟩
 |w::L,l,h=>by
  rw [List.foldl_cons];by_cases hw:n<w.length
  . rw [if_pos hw];obtain⟨h1,h2⟩:=qr4 T n L (X89 l (edW T n w)) (jC3 h);refine⟨h1,λ x=> ?_⟩;rw [h2,Zo0];constructor
    . rintro((k|k)|⟨v,hv,k⟩)
      . exact .inl k
      . exact .inr ⟨w,List.mem_cons_self,hw,k⟩
      . exact .inr ⟨v,List.mem_cons_of_mem _ hv,k⟩
    . rintro(k|⟨v,hv,k1,k2⟩)
      . exact .inl (.inl k)
      . rcases List.mem_cons.1 hv with e|hv
        . subst e;exact .inl (.inr k2)
        . exact .inr ⟨v,hv,k1,k2⟩
  . rw [if_neg hw];obtain⟨h1,h2⟩:=qr4 T n L l h;refine⟨h1,λ x=> ?_⟩;rw [h2];constructor
    . rintro(k|⟨v,hv,k⟩)
      . exact .inl k
      . exact .inr ⟨v,List.mem_cons_of_mem _ hv,k⟩
    . rintro(k|⟨v,hv,k1,k2⟩)
      . exact .inl k
      . rcases List.mem_cons.1 hv with e|hv
        . subst e;exact absurd k1 hw
        . exact .inr ⟨v,hv,k1,k2⟩
theorem Zl9 (T:List (List UInt8)) (n:Nat) (L:List (List UInt8)):(lE T n L).Nodup:=(qr4 T n L [] List.nodup_nil).1
theorem Zl0 {T:List (List UInt8)} {n:Nat} {L:List (List UInt8)} {x:Nat×Nat}:x∈lE T n L<->∃ w∈L,n<w.length/\x=edW T n w:=by
 have h:=(qr4 T n L [] List.nodup_nil).2 x;unfold lE;rw [h];exact⟨λ k=>k.elim (λ k=>absurd k List.not_mem_nil) id,.inr⟩
theorem Qn5 {w:List UInt8} {n:Nat} (h:n<w.length):w.take (n+1)=w.take n++ [bt (w.getD n 0).toNat]:=by
 rw [jz5,List.take_add_one,List.getElem?_eq_getElem h,gD _ h];rfl
theorem xH3 {L:List (List UInt8)} {w:List UInt8} (hw:w∈L) (n:Nat):w.take n∈tx L n:=(YY6 L n _).2 ⟨by rw [List.length_take];exact Nat.min_le_left _ _,.inr (ke1.2 ⟨w,hw,List.take_prefix n w⟩)⟩
theorem KH8 (L:List (List UInt8)) (n:Nat) (x:Nat×Nat):x∈lE (tx L n) n L<->x∈eL L (tx L n) n:=by
 rw [Zl0,Yi6];constructor
 . rintro⟨w,hw,hn,rfl⟩;have hin:=xH3 hw n;have hg:=JA8 hin;refine⟨KP1 hin,?_,(w.getD n 0).toNat_lt,?_⟩
   . show ((tx L n).getD (ix (tx L n) (w.take n)) []).length=n;rw [hg,List.length_take];omega
   . show yI4 L ((tx L n).getD (ix (tx L n) (w.take n)) []++ [bt (w.getD n 0).toNat])=true;rw [hg,<-Qn5 hn];exact ke1.2 ⟨w,hw,List.take_prefix _ w⟩
 . rintro⟨h1,h2,h3,h4⟩;obtain⟨w,hw,hp⟩:=ke1.1 h4;unfold etx at hp;obtain⟨u,b⟩:=x;dsimp only at h1 h2 h3 hp
   have hlen:n<w.length:=by
    have:=hp.length_le;rw [List.length_append,h2] at this;exact this
   have hpre:(tx L n).getD u []=w.take n:=by
    have h5:(tx L n).getD u []<+:w:=(List.prefix_append _ _).trans hp;have h6:=List.prefix_iff_eq_take.1 h5;rw [h2] at h6;exact h6
   have hb:bt b=w.getD n 0:=by
    have h6:=List.prefix_iff_eq_take.1 hp;rw [List.length_append,h2] at h6;have h7:=Qn5 hlen;rw [show n+ [bt b].length=n+1 from rfl,h7,hpre] at h6;have h8:=List.append_inj_right' h6 rfl;injection h8 with h8;rw [h8,jz5]
   refine⟨w,hw,hlen,?_⟩;unfold edW;rw [<-hpre,kt5 (yJ3 L n) h1,<-hb];congr 1;unfold bt;rw [UInt8.toNat_ofNat'];omega
theorem zX0 {L:List (List UInt8)} {n:Nat} {l:List (Nat×Nat)} (hm:∀ x,x∈l<->x∈lE (tx L n) n L) (hs:l.Pairwise ltE):l=eL L (tx L n) n:=
 Xw8 (R:=ltE) (λ _ _ _=>ltE.tr) ltE.ir hs (k53 L _ n) λ x=>(hm x).trans (KH8 L n x)
end Go.Proofs.YtngepacmgabmaaaGreatDoor
