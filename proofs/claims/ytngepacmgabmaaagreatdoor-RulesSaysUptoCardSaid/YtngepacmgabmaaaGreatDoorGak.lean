/- Walks: wickref.Code, prog.Make; Walks: rex.Has, wickref.Is: is a byte in .. -/
import Derived.Test.YtngepacmgabmaaaGreatDoorGaj
import Derived.Lib.SlBuf
namespace Go.Proofs.YtngepacmgabmaaaGreatDoor
open Go.RowKit
set_option linter.unusedVariables false
set_option linter.unusedSimpArgs false
theorem qK5:∀ q:Re,K55 q
 | .none=>by rintro cs x n D w rfl ⟨A,cap,rfl⟩ hD hl;exact Xp3 n w A cap
 | .empty=>by rintro cs x n D w rfl ⟨A,cap,rfl⟩ hD hl;exact xN2 n w A cap
 | .byte s=>by rintro cs x n D w rfl ⟨hs,hz,A,cap,rfl⟩ hD hl;exact JK1 n w A cap s
 | .beg=>by rintro cs x n D w rfl ⟨A,cap,rfl⟩ hD hl;exact XT2 n w A cap
 | .fin=>by rintro cs x n D w rfl ⟨A,cap,rfl⟩ hD hl;exact ZM2 n w A cap
 | .cat a b=>by rintro cs x n D w rfl ⟨A,cap,ca,cb,rfl,h1,h2,h3,h4,h5,h6⟩ hD hl;exact QP6 n D w A cap a b ca cb (qK5 a) (qK5 b) hD (by simp only [Re.size] at hl;omega) h3 h4 h5 h6 h1 h2
 | .alt a b=>by rintro cs x n D w rfl ⟨A,cap,ca,cb,rfl,h1,h2,h3,h4,h5,h6⟩ hD hl;exact xe2 n D w A cap a b ca cb (qK5 a) (qK5 b) hD (by simp only [Re.size] at hl;omega) h3 h4 h5 h6 h1 h2
 | .star a=>by rintro cs x n D w rfl ⟨A,cap,ca,rfl,h1,h2,h3,h4⟩ hD hl;exact ZH5 n D w A cap a ca (qK5 a) hD (by simp only [Re.size] at hl;omega) h3 h4 h1 h2
def zz8 (q:Re):List In:=Zv6 q 0++ [⟨6,0,0,⟨0,0,0,0⟩⟩]
def ZD4 (q:Re) (w:World) (e:Ending) (w':World):Prop:=∃ v',e= .returned v'/\OIn w' w.heap.size v' (zz8 q)/\Below w.heap.size w w'
set_option maxHeartbeats 1000000 in
theorem Qe6 (q:Re) (cs:List Value) (D:Nat) (w:World) (h:ReC w D q cs) (hD:D<=w.heap.size) (hq:q.size<=80):
 Calls Tryz.prog 90 #[.agg cs.toArray] w (ZD4 q w):=by
 obtain⟨a0,a1,a2,a3,a4,A5,l5,cap5,rfl⟩:=Qf4 h;obtain⟨W,hW⟩:∃ W,W=w.alloc (.cells #[.int .i64 a0,.int .u64 a1,.int .u64 a2,.int .u64 a3,.int .u64 a4,.slice A5 l5 cap5] 125):=⟨_,rfl⟩;have hWb:Below w.heap.size w W:=by rw [hW];exact(Below.refl _ _).alloc (Nat.le_refl _) _
 have hlc:=k29 q 0;have C:=qh (qK5 q _ 0 0 D W rfl (h.below (hWb.mono hD)) (by have:=hWb.size;omega) (by omega));have HWB:=qh hWb;have HW:=qh hW;clear hW hWb h;go_enter Tryz.func90,Tryz.ntmps90;go_wp2_with fail;rw [<-HW.out];refine C.out.mono ?_;rintro e w1 ⟨v1,rfl,o1,b1⟩;have HO1:=qh o1;have HB1:=qh (HWB.out.trans (b1.mono HWB.out.size));have hs1:W.heap.size<=w1.heap.size:=b1.size;clear o1 b1;go_wp2_with (at_builtin;refine Yq2 rfl (.tmp 4) (.tmp 6) rfl HO1.out rfl ⟨6,0,0,⟨0,0,0,0⟩⟩ rfl rfl (by omega) hs1 ?_;intro v2 w2 ho2 hg2;have HO2:=qh ho2;have HB2:=qh (HB1.out.trans (hg2.below (B:=w.heap.size) HB1.out.size (λ g hg=>Nat.le_trans HWB.out.size (Kw5 HO1.out g hg))));clear ho2 hg2);go_ret;exact⟨v2,rfl,OIn.mono HO2.out HWB.out.size,HB2.out⟩
set_option maxHeartbeats 1000000 in
theorem Zi7 (n:Nat) (r:Rx) (q:Re) (cs:List Value) (B:Nat) (w:World) (h:RxC w B n r cs) (hB:B<=w.heap.size) (h0:Xm7 n r=0) (hq:ReC w B q cs) (hz:q.size<=80):
 Calls Tryz.prog 103 #[.agg cs.toArray] w λ e w'=>∃ v',e= .returned (.tuple #[v',.int .i64 0])/\OIn w' w.heap.size v' (zz8 q)/\Below w.heap.size w w':=by
 obtain⟨a0,a1,a2,a3,a4,A5,l5,cap5,rfl⟩:=h.six;obtain⟨W,hW⟩:∃ W,W=w.alloc (.cells #[.int .i64 a0,.int .u64 a1,.int .u64 a2,.int .u64 a3,.int .u64 a4,.slice A5 l5 cap5] 125):=⟨_,rfl⟩;have hWb:Below w.heap.size w W:=by rw [hW];exact(Below.refl _ _).alloc (Nat.le_refl _) _
 have hK:Blk W w.heap.size 125 #[.int .i64 a0,.int .u64 a1,.int .u64 a2,.int .u64 a3,.int .u64 a4,.slice A5 l5 cap5]:=by rw [hW];exact Blk.new _ _ _
 have C:=qh (qG8 n r _ B W (h.below (hWb.mono hB)) (by have:=hWb.size;omega));rw [h0] at C;have hlc:=k29 q 0;have CM:=qh λ w1 (hb:Below B W w1) (hs:B<=w1.heap.size)=>ZO9 q _ [] (.slice none 0 0) w1.heap.size B w1 ((hq.below (hWb.mono hB)).below hb) hs (Nat.le_refl _) (OIn.nil _ _) (by simp;omega)
 have HWB:=qh hWb;have HW:=qh hW;have HK:=qh hK;clear hW hWb h h0 hq hK;go_enter Tryz.func103,Tryz.ntmps103;go_wp2_with fail;rw [<-HW.out];refine C.out.mono ?_;rintro e w1 ⟨rfl,b1⟩;have hWs:w.heap.size<=W.heap.size:=HWB.out.size;have hs1:W.heap.size<=w1.heap.size:=b1.size;have HB1:=qh (HWB.out.trans (b1.mono hWs));have CM1:=qh (CM.out w1 (b1.mono (by omega)) (by omega));have hK1:=HK.out.below b1 HK.out.lt;obtain⟨k0,k1,k2,k3,k4,k5⟩:=Blk.c6 hK1;clear b1 C CM hK1;go_wp2_with fail;refine CM1.out.mono ?_;rintro e w2 ⟨v2,rfl,ho2,hg2⟩;have HO2:=qh ho2;have HB2:=qh (HB1.out.trans (hg2.below (B:=w.heap.size) (by omega) (λ g hg=>by cases hg)));have hs2:w1.heap.size<=w2.heap.size:=hg2.grown.size;clear ho2 hg2 k0 k1 k2 k3 k4 k5;go_wp2_with (at_builtin;refine Yq2 rfl (.tmp 11) (.tmp 13) rfl HO2.out rfl ⟨6,0,0,⟨0,0,0,0⟩⟩ rfl rfl (by simp;omega) hs2 ?_;intro v3 w3 ho3 hg3;have HO3:=qh ho3;have HB3:=qh (HB2.out.trans (hg3.below (B:=w.heap.size) (by omega) (λ g hg=>Nat.le_trans (by omega) (Kw5 HO2.out g hg))));clear ho3 hg3);go_ret2;exact⟨v3,rfl,OIn.mono HO3.out (by omega),HB3.out⟩



theorem BoR.reads {w:World} {b N:Nat} {f:Nat->Bool} (h:BoR w b N f):Reads w (b+1) 1 (some ⟨b,0,none⟩) N ((List.range N).map λ i=>Value.bool (f i)):=
 ⟨by simp,λ hn=>⟨_,rfl,Nat.lt_succ_self b,λ j u hu=>by
  have hadd:(⟨b,0,none⟩:Addr).add j=⟨b,j,none⟩:=by unfold Addr.add;split<;>simp_all
  obtain⟨hj,rfl⟩:=List.getElem?_eq_some_iff.1 hu;simp only [List.length_map,List.length_range] at hj;rw [hadd,h.cell j hj];simp⟩⟩
theorem BoR.of_own {w:World} {B N:Nat} {v:Value} {f:Nat->Bool} (h:w.ownsRow B 4 1 v N ((List.range N).map λ i=>Value.bool (f i))) (hN:0<N):
 ∃ g cap,v= .slice (some ⟨g,0,none⟩) N cap/\B<=g/\BoR w g N f:=by
 have h':=h;rcases h.2 with⟨_,h2⟩|⟨g,cap,cur,rfl,hb,hh,_⟩
 . omega
 . exact⟨g,cap,rfl,hb,Blk.lt (t:=4) (cs:=cur) hh,λ i hi=>by rw [World.ownsRow.cellAt h' i (by omega)];simp [hi],λ i _=>World.ownsRow.frozenAt h' i⟩
def j70 (n:Nat) (k:Int):Prop:=0<=k/\k<(n:Int)
def zq1 (n i:Nat) (x:In):Prop:=
 (x.k=2/\j70 n x.a/\j70 n x.b)\/(x.k=3/\j70 n x.a)\/((x.k=1\/x.k=4\/x.k=5)/\i+1<n)\/x.k=6
def YU3 (l:List In):Prop:=∀ i x,l[i]? =some x->zq1 l.length i x
open Classical in
noncomputable def Qc7 (l:List In):Int:=if 400<l.length then 2 else if l.length=0 then 1 else if YU3 l then 0 else 1
def put (F:Nat->Nat) (t v:Nat):Nat->Nat:=λ j=>if j=t then v else F j
def YI6 (q:Re):List In:=Zv6 q 0++ [⟨6,0,0,⟨0,0,0,0⟩⟩]
def InB (lo hi:Nat) (x:In):Prop:=(x.k=2/\(lo:Int)<=x.a/\x.a<=(hi:Int)/\(lo:Int)<=x.b/\x.b<=(hi:Int))\/(x.k=3/\(lo:Int)<=x.a/\x.a<=(hi:Int))\/x.k=1\/x.k=4\/x.k=5
theorem InB.mono {lo hi lo' hi':Nat} {x:In} (h:InB lo hi x) (h1:lo'<=lo) (h2:hi<=hi'):InB lo' hi' x:=by
 unfold InB at*;omega
theorem qi4:∀ (q:Re) (n:Nat) (x:In),x∈Zv6 q n->InB n (n+(Zv6 q n).length) x
 | .none,n,x,h=>by simp only [Zv6,List.mem_singleton] at h;subst h;exact .inr (.inr (.inl rfl))
 | .empty,n,x,h=>by simp [Zv6] at h
 | .byte z,n,x,h=>by simp only [Zv6,List.mem_singleton] at h;subst h;exact .inr (.inr (.inl rfl))
 | .beg,n,x,h=>by simp only [Zv6,List.mem_singleton] at h;subst h;exact .inr (.inr (.inr (.inl rfl)))
 | .fin,n,x,h=>by simp only [Zv6,List.mem_singleton] at h;subst h;exact .inr (.inr (.inr (.inr rfl)))
 | .cat a b,n,x,h=>by
  have e:(Zv6 (.cat a b) n).length=(Zv6 a n).length+(Zv6 b (n+(Zv6 a n).length)).length:=by rw [Zv6,List.length_append]
  rw [e];simp only [Zv6,List.mem_append] at h;rcases h with h|h
  . exact(qi4 a _ x h).mono (Nat.le_refl _) (by omega)
  . exact(qi4 b _ x h).mono (by omega) (by omega)
 | .alt a b,n,x,h=>by
  have e:(Zv6 (.alt a b) n).length=2+(Zv6 a (n+1)).length+(Zv6 b (n+2+(Zv6 a (n+1)).length)).length:=by
   rw [Zv6,List.length_cons,List.length_append,List.length_cons];omega
  rw [e];simp only [Zv6,List.mem_append,List.mem_cons] at h;rcases h with h|h|h|h
  . subst h;unfold InB;dsimp only;omega
  . exact(qi4 a _ x h).mono (by omega) (by omega)
  . subst h;unfold InB;dsimp only;omega
  . exact(qi4 b _ x h).mono (by omega) (by omega)
 | .star a,n,x,h=>by
  have e:(Zv6 (.star a) n).length=2+(Zv6 a (n+1)).length:=by
   rw [Zv6,List.length_cons,List.length_append,List.length_cons,List.length_nil];omega
  rw [e];simp only [Zv6,List.mem_append,List.mem_cons,List.not_mem_nil,or_false] at h;rcases h with h|h|h
  . subst h;unfold InB;dsimp only;omega
  . exact(qi4 a _ x h).mono (by omega) (by omega)
  . subst h;unfold InB;dsimp only;omega
theorem yS1 (q:Re) (hz:q.size<=80):Qc7 (YI6 q)=0:=by
 have h1:=k29 q 0;have hl:(YI6 q).length=(Zv6 q 0).length+1:=by unfold YI6;rw [List.length_append,List.length_singleton]
 unfold Qc7;rw [if_neg (by omega),if_neg (by omega),if_pos];intro i x hx;have hi:=(List.getElem?_eq_some_iff.1 hx).1;by_cases hc:i<(Zv6 q 0).length
 . unfold YI6 at hx;rw [List.getElem?_append_left hc,List.getElem?_eq_getElem hc] at hx;cases hx;have:=qi4 q 0 _ (List.getElem_mem hc);unfold InB at this;unfold zq1 j70;rw [hl];omega
 . have he:i=(Zv6 q 0).length:=(by omega);subst he;unfold YI6 at hx;rw [List.getElem?_append_right (Nat.le_refl _),Nat.sub_self] at hx;cases hx;exact .inr (.inr (.inr rfl))
structure InR (w:World) (B:Nat) (A:Option Addr) (cap:Nat) (l:List In):Prop where
 rd:Reads w B 7 A l.length (ZW1 l)
 hB:B<=w.heap.size
 hc:l.length<=cap
 ok:∀ x,x∈l->x.s.ok
section
variable {w w':World} {B:Nat} {A:Option Addr} {cap:Nat} {l:List In}
theorem InR.below (h:InR w B A cap l) (hb:Below B w w'):InR w' B A cap l:=⟨h.rd.below hb,Nat.le_trans h.hB hb.size,h.hc,h.ok⟩
theorem InR.kept (h:InR w B A cap l) (hb:Below w.heap.size w w'):InR w' B A cap l:=h.below (hb.mono h.hB)
theorem InR.drew (h:InR w B A cap l):InR w.drew B A cap l:=⟨h.rd.drew,h.hB,h.hc,h.ok⟩
theorem InR.drewN (h:InR w B A cap l) (n:Nat):InR (w.drewN n) B A cap l:=⟨h.rd.drewN n,h.hB,h.hc,h.ok⟩
theorem InR.at_ (h:InR w B A cap l) {k:Nat} {x:In} (hx:l[k]? =some x):∃ ad,A=some ad/\ad.block<B/\w.cell? (ad.add (k*7))=some (.int .i64 x.k)/\w.cell? ⟨(ad.add (k*7)).block,(ad.add (k*7)).off+1,none⟩=some (.int .i64 x.a)/\w.cell? ⟨(ad.add (k*7)).block,(ad.add (k*7)).off+2,none⟩=some (.int .i64 x.b)/\
 w.cell? ⟨(ad.add (k*7)).block,(ad.add (k*7)).off+3,none⟩=some (.int .u64 (x.s.a:Int))/\w.cell? ⟨(ad.add (k*7)).block,(ad.add (k*7)).off+4,none⟩=some (.int .u64 (x.s.b:Int))/\w.cell? ⟨(ad.add (k*7)).block,(ad.add (k*7)).off+5,none⟩=some (.int .u64 (x.s.c:Int))/\w.cell? ⟨(ad.add (k*7)).block,(ad.add (k*7)).off+6,none⟩=some (.int .u64 (x.s.d:Int)):=by
 obtain⟨hk,_⟩:=List.getElem?_eq_some_iff.1 hx;obtain⟨ad,e,hb,hc⟩:=h.rd.2 (by omega)
 have key:∀ j,j<7->w.cell? ((ad.add (k*7)).add j)=x.cs[j]? :=λ j hj=>by
  rw [jx6];have h1:=yq5 hx hj;rw [List.getElem?_eq_getElem (show j<x.cs.length by rw [In.cs_len];exact hj)] at h1⊢;exact hc _ _ h1
 have sp:∀ j,0<j->(ad.add (k*7)).add j=⟨(ad.add (k*7)).block,(ad.add (k*7)).off+j,none⟩:=λ j hj=>by
  generalize ad.add (k*7)=p;unfold Addr.add;rw [if_neg (by omega)]
 refine⟨ad,e,hb,?_,?_,?_,?_,?_,?_,?_⟩
 . have:=key 0 (by omega);rw [jx6] at this;exact this
 all_goals rw [<-sp _ (by omega)];exact key _ (by omega)
end
set_option maxHeartbeats 1000000 in
theorem YK6 (k n:Int) (g:Nat) (w:World) (h:w.cell? ⟨g,0,none⟩=some (.int .i64 n)):
 Calls Tryz.prog 136 #[.int .i64 k,.pointer (some ⟨g,0,none⟩)] w λ e w'=>e= .returned (.bool (decide (0<=k/\k<n)))/\Below w.heap.size w w':=by
 by_cases h1:0<=k
 . by_cases h2:k<n
   rotate_left
   all_goals
    go_enter Tryz.func136,Tryz.ntmps136
    go_wp2
    go_ret;exact⟨Kh9 (by simp [h1,h2]),Below.refl _ _⟩
 . go_enter Tryz.func136,Tryz.ntmps136
   go_wp2
   go_ret;exact⟨Kh9 (by rw [decide_eq_false (show ¬0<=k by omega),Bool.false_and]),Below.refl _ _⟩
theorem KI0 {k n:Int} {b:Bool} (hb:decide (0<=k/\k<n)=b) {g:Nat} {w:World} (h:w.cell? ⟨g,0,none⟩=some (.int .i64 n)):
 Calls Tryz.prog 136 #[.int .i64 k,.pointer (some ⟨g,0,none⟩)] w λ e w'=>e= .returned (.bool b)/\Below w.heap.size w w':=by
 subst hb;exact YK6 k n g w h
theorem Z02 {l:List In} (h1:¬400<l.length) (h2:¬l.length=0) (h:YU3 l):Qc7 l=0:=by unfold Qc7;rw [if_neg h1,if_neg h2,if_pos h]
theorem QN1 {l:List In} (h1:¬400<l.length) {i:Nat} {x:In} (hx:l[i]? =some x) (h:¬zq1 l.length i x):Qc7 l=1:=by
 unfold Qc7;rw [if_neg h1];by_cases h2:l.length=0
 . rw [if_pos h2]
 . rw [if_neg h2,if_neg λ k=>h (k i x hx)]
section
variable (l:List In) (A:Option Addr) (cap B:Nat) (w:World)
set_option maxHeartbeats 4000000 in
theorem ko0 (h:InR w B A cap l):
 Calls Tryz.prog 104 #[.slice A l.length cap] w λ e w'=>e= .returned (.int .i64 (Qc7 l))/\Below w.heap.size w w':=by
 have hB1:Below w.heap.size w (w.alloc (.cells #[.int .i64 (l.length:Int)] 3)):=(Below.refl _ _).alloc (Nat.le_refl _) _;have HB1:=qh hB1;by_cases h1:400<l.length
 . have d1:(400:Int)<(l.length:Int):=(by omega);have eP:Qc7 l=2:=(by unfold Qc7;rw [if_pos h1]);rw [eP];clear h hB1 eP;go_enter Tryz.func104,Tryz.ntmps104;go_wp2_with fail;go_ret;exact⟨rfl,HB1.out⟩
 . have d1:¬(400:Int)<(l.length:Int):=(by omega);by_cases h2:l.length=0
   . have d2:((l.length:Int)==0)=true:=(by rw [beq_iff_eq];omega);have eP:Qc7 l=1:=(by unfold Qc7;rw [if_neg h1,if_pos h2]);rw [eP];clear h hB1 eP h2;go_enter Tryz.func104,Tryz.ntmps104;go_wp2_with fail;go_ret;exact⟨rfl,HB1.out⟩
   . have d2:((l.length:Int)==0)=false:=(by rw [beq_eq_false_iff_ne];omega);obtain⟨W,hW⟩:∃ W,W=w.alloc (.cells #[.int .i64 (l.length:Int)] 3):=⟨_,rfl⟩;rw [<-hW] at hB1 HB1;have hN:Blk W w.heap.size 3 #[.int .i64 (l.length:Int)]:=(by rw [hW];exact Blk.new _ _ _);have HR:=qh (h.kept hB1);have n0:=Blk.e0 hN;have HN:=qh hN;have HW:=qh hW;have hlt:=hN.lt;clear h hB1 hN hW;go_enter Tryz.func104,Tryz.ntmps104;go_wp2_with fail;rw [<-HW.out];go_wp2_with fail;go_loopw [17] (λ i wr=>∃ k:Nat,k<=l.length/\i= .int .i64 k/\Below W.heap.size W wr/\Hid (∀ i x,i<k->l[i]? =some x->zq1 l.length i x)) (λ i _=>l.length-(intOf i).toNat)
     case atStart=>exact⟨0,by omega,rfl,Below.refl _ _,λ i x h=>absurd h (by omega)⟩
     case round=>
      obtain⟨k,hk,rfl,hb,HI⟩:=hrel;have hz:=hb.size;have hlr:w.heap.size<wr.heap.size:=(by omega);by_cases hlk:k<l.length
      . obtain⟨x,hx⟩:∃ x,l[k]? =some x:=⟨l[k],List.getElem?_eq_getElem hlk⟩;obtain⟨ad,rfl,hbk,x0,x1,x2,x3,x4,x5,x6⟩:=(HR.out.kept hb).at_ hx;have i1:(k:Int)<(l.length:Int):=(by omega);have i3:IntKind.i64.wrap ((k:Int)+1)=(k:Int)+1:=IntWalk.i64_in _ (by omega);obtain⟨V,hV⟩:∃ V,V=wr.alloc (.cells #[.int .i64 x.k,.int .i64 x.a,.int .i64 x.b,.int .u64 (x.s.a:Int),.int .u64 (x.s.b:Int),.int .u64 (x.s.c:Int),.int .u64 (x.s.d:Int)] 162):=⟨_,rfl⟩;have hVb:Below wr.heap.size wr V:=(by rw [hV];exact(Below.refl _ _).alloc (Nat.le_refl _) _);have hVk:Blk V wr.heap.size 162 #[.int .i64 x.k,.int .i64 x.a,.int .i64 x.b,.int .u64 (x.s.a:Int),.int .u64 (x.s.b:Int),.int .u64 (x.s.c:Int),.int .u64 (x.s.d:Int)]:=(by rw [hV];exact Blk.new _ _ _);have hVl:=hVk.lt;have HBV:=qh (hb.trans (hVb.mono hz));have hNV:Blk V w.heap.size 3 #[.int .i64 (l.length:Int)]:=(HN.out.below hb hlt).below hVb hlr;have m00:=Blk.e0 (HN.out.below hb hlt);have HV:=qh hV;have HVK:=qh hVk;have HNV:=qh hNV;obtain⟨k0,k1,k2⟩:=Blk.c3 hVk;have m0:=Blk.e0 hNV;clear hb hVb hVk hNV hV;by_cases hRI:zq1 l.length k x
        . have HI2:Hid (∀ i x,i<k+1->l[i]? =some x->zq1 l.length i x):=λ i y hi hy=>by
           by_cases e:i=k
           . subst e;rw [hx] at hy;cases hy;exact hRI
           . exact HI.out i y (by omega) hy
          unfold zq1 j70 at hRI;rcases hRI with⟨c,ha,hb⟩|⟨c,ha⟩|⟨c,hl⟩|c
          . rw [c] at x0 k0 HVK HV;have hda:decide (0<=x.a/\x.a<(l.length:Int))=true:=decide_eq_true ha;have hdb:decide (0<=x.b/\x.b<(l.length:Int))=true:=decide_eq_true hb;clear ha hb c hx;go_wp2_with fail;rw [<-HV.out];go_wp2_with fail;refine(KI0 (b:=true) (k:=x.a) (n:=(l.length:Int)) (by exact hda) m0).mono ?_;rintro e w1 ⟨rfl,b1⟩;have HB2:=qh (HBV.out.trans (b1.mono HBV.out.size));have k2:=Blk.e2 (HVK.out.below b1 hVl);have m0:=Blk.e0 (HNV.out.below b1 (by omega));clear b1;go_wp2_with fail;refine(KI0 (b:=true) (k:=x.b) (n:=(l.length:Int)) (by exact hdb) m0).mono ?_;rintro e w2 ⟨rfl,b2⟩;have HB3:=qh (HB2.out.trans (b2.mono HB2.out.size));clear b2;go_wp2_with fail;go_roundw
            case rel=>exact⟨k+1,by omega,by go_num,HB3.out,HI2⟩
            case measure=>simp [intOf];omega
          . rw [c] at x0 k0 HVK HV;have hda:decide (0<=x.a/\x.a<(l.length:Int))=true:=decide_eq_true ha;clear ha c hx;go_wp2_with fail;rw [<-HV.out];go_wp2_with fail;refine(KI0 (b:=true) (k:=x.a) (n:=(l.length:Int)) (by exact hda) m0).mono ?_;rintro e w1 ⟨rfl,b1⟩;have HB2:=qh (HBV.out.trans (b1.mono HBV.out.size));have k2:=Blk.e2 (HVK.out.below b1 hVl);have m0:=Blk.e0 (HNV.out.below b1 (by omega));clear b1;go_wp2_with fail;go_roundw
            case rel=>exact⟨k+1,by omega,by go_num,HB2.out,HI2⟩
            case measure=>simp [intOf];omega
          . have i2:(k:Int)+1<(l.length:Int):=(by omega);rcases c with c|c|c
            rotate_left
            rotate_left
            all_goals
             rw [c] at x0 k0 HVK HV;clear c hx;go_wp2_with fail;rw [<-HV.out];go_wp2_with fail;go_roundw
             case rel=>exact⟨k+1,by omega,by go_num,HBV.out,HI2⟩
             case measure=>simp [intOf];omega
          . rw [c] at x0 k0 HVK HV;clear c hx;go_wp2_with fail;rw [<-HV.out];go_wp2_with fail;go_roundw
            case rel=>exact⟨k+1,by omega,by go_num,HBV.out,HI2⟩
            case measure=>simp [intOf];omega
        . have HEP:=qh (QN1 h1 hx hRI);unfold zq1 j70 at hRI;have hw:(x.k=2/\¬(0<=x.a/\x.a<(l.length:Int)))\/(x.k=2/\(0<=x.a/\x.a<(l.length:Int))/\¬(0<=x.b/\x.b<(l.length:Int)))\/(x.k=3/\¬(0<=x.a/\x.a<(l.length:Int)))\/((x.k=1\/x.k=4\/x.k=5)/\¬k+1<l.length)\/(x.k≠1/\x.k≠2/\x.k≠3/\x.k≠4/\x.k≠5/\x.k≠6):=(by omega);clear hRI;rcases hw with⟨c,ha⟩|⟨c,ha,hb⟩|⟨c,ha⟩|⟨c,hl⟩|⟨c1,c2,c3,c4,c5,c6⟩
          . rw [c] at x0 k0 HVK HV;have hda:decide (0<=x.a/\x.a<(l.length:Int))=false:=decide_eq_false ha;clear ha c hx;go_wp2_with fail;rw [<-HV.out];go_wp2_with fail;refine(KI0 (b:=false) (k:=x.a) (n:=(l.length:Int)) (by exact hda) m0).mono ?_;rintro e w1 ⟨rfl,b1⟩;have HB2:=qh (HBV.out.trans (b1.mono HBV.out.size));have k2:=Blk.e2 (HVK.out.below b1 hVl);have m0:=Blk.e0 (HNV.out.below b1 (by omega));clear b1;go_wp2_with fail;go_ret;exact⟨by show Ending.returned (.int .i64 1)=_;rw [HEP.out],HB1.out.trans (HB2.out.mono HB1.out.size)⟩
          . rw [c] at x0 k0 HVK HV;have hda:decide (0<=x.a/\x.a<(l.length:Int))=true:=decide_eq_true ha;have hdb:decide (0<=x.b/\x.b<(l.length:Int))=false:=decide_eq_false hb;clear ha hb c hx;go_wp2_with fail;rw [<-HV.out];go_wp2_with fail;refine(KI0 (b:=true) (k:=x.a) (n:=(l.length:Int)) (by exact hda) m0).mono ?_;rintro e w1 ⟨rfl,b1⟩;have HB2:=qh (HBV.out.trans (b1.mono HBV.out.size));have k2:=Blk.e2 (HVK.out.below b1 hVl);have m0:=Blk.e0 (HNV.out.below b1 (by omega));clear b1;go_wp2_with fail;refine(KI0 (b:=false) (k:=x.b) (n:=(l.length:Int)) (by exact hdb) m0).mono ?_;rintro e w2 ⟨rfl,b2⟩;have HB3:=qh (HB2.out.trans (b2.mono HB2.out.size));clear b2;go_wp2_with fail;go_ret;exact⟨by show Ending.returned (.int .i64 1)=_;rw [HEP.out],HB1.out.trans (HB3.out.mono HB1.out.size)⟩
          . rw [c] at x0 k0 HVK HV;have hda:decide (0<=x.a/\x.a<(l.length:Int))=false:=decide_eq_false ha;clear ha c hx;go_wp2_with fail;rw [<-HV.out];go_wp2_with fail;refine(KI0 (b:=false) (k:=x.a) (n:=(l.length:Int)) (by exact hda) m0).mono ?_;rintro e w1 ⟨rfl,b1⟩;have HB2:=qh (HBV.out.trans (b1.mono HBV.out.size));have k2:=Blk.e2 (HVK.out.below b1 hVl);have m0:=Blk.e0 (HNV.out.below b1 (by omega));clear b1;go_wp2_with fail;go_ret;exact⟨by show Ending.returned (.int .i64 1)=_;rw [HEP.out],HB1.out.trans (HB2.out.mono HB1.out.size)⟩
          . have i2:¬(k:Int)+1<(l.length:Int):=(by omega);rcases c with c|c|c
            rotate_left
            rotate_left
            all_goals
             rw [c] at x0 k0 HVK HV;clear c hx;go_wp2_with fail;rw [<-HV.out];go_wp2_with fail;go_ret;exact⟨by show Ending.returned (.int .i64 1)=_;rw [HEP.out],HB1.out.trans (HBV.out.mono HB1.out.size)⟩
          . have q1:(x.k==1)=false:=beq_eq_false_iff_ne.2 c1;have q2:(x.k==2)=false:=beq_eq_false_iff_ne.2 c2;have q3:(x.k==3)=false:=beq_eq_false_iff_ne.2 c3;have q4:(x.k==4)=false:=beq_eq_false_iff_ne.2 c4;have q5:(x.k==5)=false:=beq_eq_false_iff_ne.2 c5;have q6:(x.k==6)=false:=beq_eq_false_iff_ne.2 c6;clear hx;go_wp2_with fail;rw [<-HV.out];go_wp2_with fail;go_ret;exact⟨by show Ending.returned (.int .i64 1)=_;rw [HEP.out],HB1.out.trans (HBV.out.mono HB1.out.size)⟩
      . obtain rfl:k=l.length:=(by omega);have eP:Qc7 l=0:=Z02 h1 h2 λ i x hx=>HI.out i x (List.getElem?_eq_some_iff.1 hx).1 hx
        have HE:=qh eP;have HF:=qh ((HB1.out.trans (hb.mono HB1.out.size)));clear hb eP;go_wp2_with fail;go_ret;exact⟨by show Ending.returned (.int .i64 0)=_;rw [HE.out],HF.out⟩
end
end Go.Proofs.YtngepacmgabmaaaGreatDoor
