/- Walks: wickref.code, wickref.Code, prog.Make. -/
import Derived.Test.YtngepacmgabmaaaGreatDoorGai
namespace Go.Proofs.YtngepacmgabmaaaGreatDoor
open Go.RowKit
set_option linter.unusedVariables false
set_option linter.unusedSimpArgs false
section
variable {w w':World} {B:Nat} {v v' u u':Value} {l m:List In}
abbrev Off (v u:Value):Prop:=v.ownBlock=none\/v.ownBlock≠u.ownBlock
theorem Off.nil (v:Value):Off v (.slice none 0 0):=by
 rcases h:v.ownBlock with _|x
 . exact .inl h
 . exact .inr (by rw [h];intro e;cases e)
theorem OIn.keptG (h:OIn w B v l) (hg:Grew w w' u u') (ho:Off v u):OIn w' B v l/\Off v u':=by
 refine⟨World.ownsRow.kept h hg.grown ho,?_⟩;rcases hv:v.ownBlock with _|x
 . exact .inl hv
 . have hx:=(World.ownsRow.lt h x hv).2;refine .inr ?_;rcases hg.home with e|⟨y,e,hy⟩
   . rcases ho with h0|h0
     . rw [hv] at h0;cases h0
     . rw [e];exact h0
   . rw [hv,e];intro e2;injection e2 with e2;omega
theorem OIn.mono {B':Nat} (h:OIn w B v l) (hB:B'<=B):OIn w B' v l:=by
 refine⟨h.1,?_⟩;rcases h.2 with h2|⟨g,cap,cur,e1,e2,e3⟩
 . exact .inl h2
 . exact .inr ⟨g,cap,cur,e1,Nat.le_trans hB e2,e3⟩
theorem OIn.reads {A0:Option Addr} {n0 c0:Nat} (h:OIn w B (.slice A0 n0 c0) l):Reads w w.heap.size 7 A0 l.length (ZW1 l):=Reads.of_own (c:=c0) (by
 have:=h.form;obtain⟨A,c,e⟩:=this;injection e with e1 e2 e3;subst e1 e2 e3;exact h)
theorem jz7:∀ u∈ZW1 l,u.oneCell'=true:=by
 intro u hu;unfold ZW1 at hu;obtain⟨i,_,hi⟩:=List.mem_flatMap.1 hu;simp only [In.cs,inCs,List.mem_cons,List.not_mem_nil,or_false] at hi;rcases hi with rfl|rfl|rfl|rfl|rfl|rfl|rfl<;>rfl
theorem xT7 {ops:Array Oper} {rest:List Oper} {o:Oper} {a:Act} {Q:Exit->Act->World->Prop} {B2:Nat} {A:Option Addr} {c:Nat} (hgd:o.guard=none) (s x:Operand)
 (ho:o.op= .call {callee:= .builtin .append,args:=#[s,x],argTypes:=#[129,129]})
 (h:OIn w B v l) (hs:a.eval s=v) (h2:OIn w B2 (.slice A m.length c) m) (hx:a.eval x= .slice A m.length c) (hlen:l.length+m.length<=1000000) (hB:B<=w.heap.size)
 (hK:∀ v' w',OIn w' B v' (l++m)->Grew w w' v v'->wpList Tryz.prog ops Q rest (a.put o.dst v') w'):
 wpList Tryz.prog ops Q (o::rest) a w:=by
 obtain⟨i0,hi0,hz0,hz1,hz2⟩:=info_parts y18;refine Yk6 w hgd s x _ ho B 162 i0 _ 7 56 Tryz.underlying129 hi0 hz0 hz1 hz2 rfl (by decide) v l.length (ZW1 l) hs h w.heap.size A m.length c (ZW1 m) hx h2.reads jz7 (by unfold maxLen;omega) (by omega) hB λ v' w' h3 h4 h5=>hK v' w' (by unfold OIn;rw [List.length_append,zF2];exact h3) ⟨h4,?_⟩
 rcases h5 with h5|h5
 . exact .inl h5
 . exact .inr ⟨_,h5,Nat.le_refl _⟩
theorem OIn.lit (w:World) (hB:B<=w.heap.size) (i:In):OIn (w.alloc (.cells #[.int .i64 i.k,.int .i64 i.a,.int .i64 i.b,.int .u64 (i.s.a:Int),.int .u64 (i.s.b:Int),.int .u64 (i.s.c:Int),.int .u64 (i.s.d:Int)] 162)) B (.slice (some ⟨w.heap.size,0,none⟩) 1 1) [i]:=by
 have:=World.ownsRow_lit (base:=B) (e:=162) (size:=7) w #[.int .i64 i.k,.int .i64 i.a,.int .i64 i.b,.int .u64 (i.s.a:Int),.int .u64 (i.s.b:Int),.int .u64 (i.s.c:Int),.int .u64 (i.s.d:Int)] 1 hB (by unfold maxLen;omega) rfl;unfold OIn;rw [x91];exact this
end
def YU5 (q:Re) (n:Nat) (w:World) (e:Ending) (w':World):Prop:=∃ v',e= .returned v'/\OIn w' w.heap.size v' (Zv6 q n)/\Below w.heap.size w w'
def K55 (q:Re):Prop:=∀ (cs:List Value) (x:Int) (n D:Nat) (w:World),x=(n:Int)->ReC w D q cs->D<=w.heap.size->n+2*q.size<=1000->
 Calls Tryz.prog 120 #[.agg cs.toArray,.int .i64 x] w (YU5 q n w)
section
variable (n D:Nat) (w:World) (A:Option Addr) (cap:Nat)
set_option maxRecDepth 100000 in
set_option maxHeartbeats 1000000 in
theorem Xp3:Calls Tryz.prog 120 #[.agg #[.int .i64 1,.int .u64 0,.int .u64 0,.int .u64 0,.int .u64 0,.slice A 0 cap],.int .i64 (n:Int)] w (YU5 .none n w):=by
 go_enter Tryz.func120,Tryz.ntmps120;go_wp2_with fail;go_ret;exact⟨.slice (some ⟨w.heap.size+1,0,none⟩) 1 1,rfl,by have:=OIn.lit (B:=w.heap.size) (w.alloc (.cells #[.int .i64 1,.int .u64 0,.int .u64 0,.int .u64 0,.int .u64 0,.slice A 0 cap] 125)) (by simp) ⟨1,0,0,⟨0,0,0,0⟩⟩;simpa [Zv6] using this,((Below.refl _ _).alloc (Nat.le_refl _) _).alloc (by simp) _⟩
set_option maxRecDepth 100000 in
set_option maxHeartbeats 1000000 in
theorem XT2:Calls Tryz.prog 120 #[.agg #[.int .i64 7,.int .u64 0,.int .u64 0,.int .u64 0,.int .u64 0,.slice A 0 cap],.int .i64 (n:Int)] w (YU5 .beg n w):=by
 go_enter Tryz.func120,Tryz.ntmps120;go_wp2_with fail;go_ret;exact⟨.slice (some ⟨w.heap.size+1,0,none⟩) 1 1,rfl,by have:=OIn.lit (B:=w.heap.size) (w.alloc (.cells #[.int .i64 7,.int .u64 0,.int .u64 0,.int .u64 0,.int .u64 0,.slice A 0 cap] 125)) (by simp) ⟨4,0,0,⟨0,0,0,0⟩⟩;simpa [Zv6] using this,((Below.refl _ _).alloc (Nat.le_refl _) _).alloc (by simp) _⟩
set_option maxRecDepth 100000 in
set_option maxHeartbeats 1000000 in
theorem ZM2:Calls Tryz.prog 120 #[.agg #[.int .i64 8,.int .u64 0,.int .u64 0,.int .u64 0,.int .u64 0,.slice A 0 cap],.int .i64 (n:Int)] w (YU5 .fin n w):=by
 go_enter Tryz.func120,Tryz.ntmps120;go_wp2_with fail;go_ret;exact⟨.slice (some ⟨w.heap.size+1,0,none⟩) 1 1,rfl,by have:=OIn.lit (B:=w.heap.size) (w.alloc (.cells #[.int .i64 8,.int .u64 0,.int .u64 0,.int .u64 0,.int .u64 0,.slice A 0 cap] 125)) (by simp) ⟨5,0,0,⟨0,0,0,0⟩⟩;simpa [Zv6] using this,((Below.refl _ _).alloc (Nat.le_refl _) _).alloc (by simp) _⟩
set_option maxRecDepth 100000 in
set_option maxHeartbeats 1000000 in
theorem JK1 (s:Q4):Calls Tryz.prog 120 #[.agg #[.int .i64 3,.int .u64 (s.a:Int),.int .u64 (s.b:Int),.int .u64 (s.c:Int),.int .u64 (s.d:Int),.slice A 0 cap],.int .i64 (n:Int)] w (YU5 (.byte s) n w):=by
 go_enter Tryz.func120,Tryz.ntmps120;go_wp2_with fail;go_ret;exact⟨.slice (some ⟨w.heap.size+1,0,none⟩) 1 1,rfl,by have:=OIn.lit (B:=w.heap.size) (w.alloc (.cells #[.int .i64 3,.int .u64 (s.a:Int),.int .u64 (s.b:Int),.int .u64 (s.c:Int),.int .u64 (s.d:Int),.slice A 0 cap] 125)) (by simp) ⟨1,0,0,s⟩;simpa [Zv6] using this,((Below.refl _ _).alloc (Nat.le_refl _) _).alloc (by simp) _⟩
set_option maxRecDepth 100000 in
set_option maxHeartbeats 1000000 in
theorem xN2:Calls Tryz.prog 120 #[.agg #[.int .i64 2,.int .u64 0,.int .u64 0,.int .u64 0,.int .u64 0,.slice A 0 cap],.int .i64 (n:Int)] w (YU5 .empty n w):=by
 go_enter Tryz.func120,Tryz.ntmps120;go_wp2_with fail;go_ret;exact⟨.slice none 0 0,rfl,by unfold Zv6;exact OIn.nil _ _,(Below.refl _ _).alloc (Nat.le_refl _) _⟩
set_option maxRecDepth 100000 in
set_option maxHeartbeats 1000000 in
theorem QP6 (a b:Re) (ca cb:List Value) (IHa:K55 a) (IHb:K55 b) (hD:D<=w.heap.size) (hl:n+2*(a.size+b.size+1)<=1000)
 (h1:At6 w D A 0 ca) (h2:At6 w D A 1 cb) (ha:ReC w D a ca) (hb:ReC w D b cb) (hcap:2<=cap) (hcap2:cap<=9223372036854775807):
 Calls Tryz.prog 120 #[.agg #[.int .i64 4,.int .u64 0,.int .u64 0,.int .u64 0,.int .u64 0,.slice A 2 cap],.int .i64 (n:Int)] w (YU5 (.cat a b) n w):=by
 obtain⟨ad,rfl⟩:∃ ad,A=some ad:=⟨_,h1.choose_spec.1⟩;obtain⟨a0,a1,a2,a3,a4,A5,l5,cap5,rfl⟩:=Qf4 ha;obtain⟨b0,b1,b2,b3,b4,B5,m5,capb,rfl⟩:=Qf4 hb;have hla:=k29 a (n);have hblD:ad.block<D:=(xb8 h1 (Below.refl _ _)).1;have hblw:ad.block<w.heap.size:=by omega
 obtain⟨W,hW⟩:∃ W,W=w.alloc (.cells #[.int .i64 4,.int .u64 0,.int .u64 0,.int .u64 0,.int .u64 0,.slice (some ad) 2 cap] 125):=⟨_,rfl⟩;have hWs:w.heap.size+1=W.heap.size:=by rw [hW];simp
 have hWb:Below w.heap.size w W:=by rw [hW];exact(Below.refl _ _).alloc (Nat.le_refl _) _
 have hK:Blk W w.heap.size 125 #[.int .i64 4,.int .u64 0,.int .u64 0,.int .u64 0,.int .u64 0,.slice (some ad) 2 cap]:=by rw [hW];exact Blk.new _ _ _
 obtain⟨d0,d1,d2,d3,d4,d5⟩:=xH2 h1 (Below.refl D w);have CA:=qh λ x (hx:x=((n:Nat):Int))=>IHa _ x (n) D W hx (ha.below (hWb.mono hD)) (by omega) (by omega)
 have H2:=qh λ w' hk=>kid1 (w':=w') h2 hk
 have CB:=qh λ w2 x (hx:x=((n+(Zv6 a (n)).length:Nat):Int)) (hb2:Below D w w2) (hs:D<=w2.heap.size)=>IHb _ x (n+(Zv6 a (n)).length) D w2 hx (hb.below hb2) hs (by omega)
 have hlb:=k29 b (n+(Zv6 a (n)).length);obtain⟨M,hM⟩:∃ M,M=Zv6 a (n):=⟨_,rfl⟩;rw [<-hM] at hla CB hlb;obtain⟨N,hN⟩:∃ N,N=Zv6 b (n+M.length):=⟨_,rfl⟩;rw [<-hN] at hlb;have HN:=qh hN;have HW:=qh hW;have HWB:=qh hWb;have HK:=qh hK;have HM:=qh hM;clear hW hWb hK ha h1 IHa hM hb h2 IHb hN;go_enter Tryz.func120,Tryz.ntmps120;go_wp2_with fail;clear d0 d1 d2 d3 d4 d5;rw [<-HW.out];refine(CA.out _ (by first|rfl|(rw [Int.natCast_add];rfl))).mono ?_;rintro e w1 ⟨va,rfl,oa,ba⟩;rw [<-HM.out] at oa;have HOA:=qh oa;have HB1:=qh (HWB.out.trans (ba.mono (by omega)));have hs1:W.heap.size<=w1.heap.size:=ba.size;have hbl1:ad.block<w1.heap.size:=by omega
 have k5:=Blk.e5 (HK.out.below ba (by omega));obtain⟨d0,d1,d2,d3,d4,d5⟩:=H2.out w1 (HB1.out.mono hD);obtain⟨A1,c1,rfl⟩:=oa.form;clear oa ba CA;go_wp2_with fail;refine(CB.out w1 _ (by simp only [Int.natCast_add];try rfl) (HB1.out.mono hD) (by omega)).mono ?_;rintro e w2 ⟨vb,rfl,ob,bb⟩;rw [<-HN.out] at ob;have HOA2:=qh (HOA.out.below bb);have HOB2:=qh ob;have HB2:=qh (HB1.out.trans (bb.mono (by omega)));have hs2:w1.heap.size<=w2.heap.size:=bb.size;obtain⟨A2,c2,rfl⟩:=ob.form;clear ob bb CB d0 d1 d2 d3 d4 d5 k5;go_wp2_with (at_builtin;go_loud (refine xT7 rfl (.tmp 35) (.tmp 44) rfl HOA2.out rfl HOB2.out rfl (by omega) (by omega) ?_;intro v3 w3 ho3 hg3;have HO3:=qh ho3;have HB3:=qh (HB2.out.trans (hg3.below (B:=w.heap.size) (by omega) (λ g hg=>Nat.le_trans (by omega) (Kw5 HOA2.out g hg))));clear ho3 hg3));go_ret;exact⟨v3,rfl,by unfold Zv6;rw [<-HM.out,<-HN.out];exact OIn.mono HO3.out (by omega),HB3.out⟩
set_option maxRecDepth 100000 in
set_option maxHeartbeats 1000000 in
theorem xe2 (a b:Re) (ca cb:List Value) (IHa:K55 a) (IHb:K55 b) (hD:D<=w.heap.size) (hl:n+2*(a.size+b.size+1)<=1000)
 (h1:At6 w D A 0 ca) (h2:At6 w D A 1 cb) (ha:ReC w D a ca) (hb:ReC w D b cb) (hcap:2<=cap) (hcap2:cap<=9223372036854775807):
 Calls Tryz.prog 120 #[.agg #[.int .i64 5,.int .u64 0,.int .u64 0,.int .u64 0,.int .u64 0,.slice A 2 cap],.int .i64 (n:Int)] w (YU5 (.alt a b) n w):=by
 obtain⟨ad,rfl⟩:∃ ad,A=some ad:=⟨_,h1.choose_spec.1⟩;obtain⟨a0,a1,a2,a3,a4,A5,l5,cap5,rfl⟩:=Qf4 ha;obtain⟨b0,b1,b2,b3,b4,B5,m5,capb,rfl⟩:=Qf4 hb;have hla:=k29 a (n+1);have hblD:ad.block<D:=(xb8 h1 (Below.refl _ _)).1;have hblw:ad.block<w.heap.size:=by omega
 obtain⟨W,hW⟩:∃ W,W=w.alloc (.cells #[.int .i64 5,.int .u64 0,.int .u64 0,.int .u64 0,.int .u64 0,.slice (some ad) 2 cap] 125):=⟨_,rfl⟩;have hWs:w.heap.size+1=W.heap.size:=by rw [hW];simp
 have hWb:Below w.heap.size w W:=by rw [hW];exact(Below.refl _ _).alloc (Nat.le_refl _) _
 have hK:Blk W w.heap.size 125 #[.int .i64 5,.int .u64 0,.int .u64 0,.int .u64 0,.int .u64 0,.slice (some ad) 2 cap]:=by rw [hW];exact Blk.new _ _ _
 obtain⟨d0,d1,d2,d3,d4,d5⟩:=xH2 h1 (Below.refl D w);have CA:=qh λ x (hx:x=((n+1:Nat):Int))=>IHa _ x (n+1) D W hx (ha.below (hWb.mono hD)) (by omega) (by omega)
 have H2:=qh λ w' hk=>kid1 (w':=w') h2 hk
 have CB:=qh λ w2 x (hx:x=((n+2+(Zv6 a (n+1)).length:Nat):Int)) (hb2:Below D w w2) (hs:D<=w2.heap.size)=>IHb _ x (n+2+(Zv6 a (n+1)).length) D w2 hx (hb.below hb2) hs (by omega)
 have hlb:=k29 b (n+2+(Zv6 a (n+1)).length);obtain⟨M,hM⟩:∃ M,M=Zv6 a (n+1):=⟨_,rfl⟩;rw [<-hM] at hla CB hlb;obtain⟨N,hN⟩:∃ N,N=Zv6 b (n+2+M.length):=⟨_,rfl⟩;rw [<-hN] at hlb;have HN:=qh hN;have HW:=qh hW;have HWB:=qh hWb;have HK:=qh hK;have HM:=qh hM;clear hW hWb hK ha h1 IHa hM hb h2 IHb hN;go_enter Tryz.func120,Tryz.ntmps120;go_wp2_with fail;clear d0 d1 d2 d3 d4 d5;rw [<-HW.out];refine(CA.out _ (by first|rfl|(rw [Int.natCast_add];rfl))).mono ?_;rintro e w1 ⟨va,rfl,oa,ba⟩;rw [<-HM.out] at oa;have HOA:=qh oa;have HB1:=qh (HWB.out.trans (ba.mono (by omega)));have hs1:W.heap.size<=w1.heap.size:=ba.size;have hbl1:ad.block<w1.heap.size:=by omega
 have k5:=Blk.e5 (HK.out.below ba (by omega));obtain⟨d0,d1,d2,d3,d4,d5⟩:=H2.out w1 (HB1.out.mono hD);obtain⟨A1,c1,rfl⟩:=oa.form;clear oa ba CA;go_wp2_with fail;refine(CB.out w1 _ (by simp only [Int.natCast_add];try rfl) (HB1.out.mono hD) (by omega)).mono ?_;rintro e w2 ⟨vb,rfl,ob,bb⟩;rw [<-HN.out] at ob;have HOA2:=qh (HOA.out.below bb);have HOB2:=qh ob;have HB2:=qh (HB1.out.trans (bb.mono (by omega)));have hs2:w1.heap.size<=w2.heap.size:=bb.size;obtain⟨A2,c2,rfl⟩:=ob.form;clear ob bb CB d0 d1 d2 d3 d4 d5 k5;have HO2:=qh (OIn.nil w2 W.heap.size);have HFA2:=qh (Off.nil (.slice A1 M.length c1));have HFB2:=qh (Off.nil (.slice A2 N.length c2))
 go_wp2_with (first
  |(at_builtin;refine Yq2 rfl (.tmp 65) (.tmp 74) rfl HO2.out rfl ⟨2,(n:Int)+1,(n:Int)+2+(M.length:Int),⟨0,0,0,0⟩⟩ rfl rfl (by simp only [List.length_append,List.length_cons,List.length_nil];omega) (by omega) ?_;intro v3 w3 ho3 hg3;have hs3:=hg3.grown.size;have HOA3:=qh (HOA2.out.keptG hg3 HFA2.out).1;have HFA3:=qh (HOA2.out.keptG hg3 HFA2.out).2;have HOB3:=qh (HOB2.out.keptG hg3 HFB2.out).1;have HFB3:=qh (HOB2.out.keptG hg3 HFB2.out).2;have HB3:=qh (HB2.out.trans (hg3.below (B:=w.heap.size) (by omega) (λ g hg=>Nat.le_trans (by omega) (Kw5 HO2.out g hg))));have HO3:=qh ho3;clear ho3 hg3)
  |(at_builtin;refine xT7 rfl (.tmp 76) (.tmp 77) rfl HO3.out rfl HOA3.out rfl (by simp only [List.length_append,List.length_cons,List.length_nil];omega) (by omega) ?_;intro v4 w4 ho4 hg4;have hs4:=hg4.grown.size;have HOA4:=qh (HOA3.out.keptG hg4 HFA3.out).1;have HFA4:=qh (HOA3.out.keptG hg4 HFA3.out).2;have HOB4:=qh (HOB3.out.keptG hg4 HFB3.out).1;have HFB4:=qh (HOB3.out.keptG hg4 HFB3.out).2;have HB4:=qh (HB3.out.trans (hg4.below (B:=w.heap.size) (by omega) (λ g hg=>Nat.le_trans (by omega) (Kw5 HO3.out g hg))));have HO4:=qh ho4;clear ho4 hg4)
  |(at_builtin;refine Yq2 rfl (.tmp 79) (.tmp 89) rfl HO4.out rfl ⟨3,(n:Int)+2+(M.length:Int)+(N.length:Int),0,⟨0,0,0,0⟩⟩ rfl rfl (by simp only [List.length_append,List.length_cons,List.length_nil];omega) (by omega) ?_;intro v5 w5 ho5 hg5;have hs5:=hg5.grown.size;have HOA5:=qh (HOA4.out.keptG hg5 HFA4.out).1;have HFA5:=qh (HOA4.out.keptG hg5 HFA4.out).2;have HOB5:=qh (HOB4.out.keptG hg5 HFB4.out).1;have HFB5:=qh (HOB4.out.keptG hg5 HFB4.out).2;have HB5:=qh (HB4.out.trans (hg5.below (B:=w.heap.size) (by omega) (λ g hg=>Nat.le_trans (by omega) (Kw5 HO4.out g hg))));have HO5:=qh ho5;clear ho5 hg5)
  |(at_builtin;refine xT7 rfl (.tmp 91) (.tmp 92) rfl HO5.out rfl HOB5.out rfl (by simp only [List.length_append,List.length_cons,List.length_nil];omega) (by omega) ?_;intro v6 w6 ho6 hg6;have hs6:=hg6.grown.size;have HOA6:=qh (HOA5.out.keptG hg6 HFA5.out).1;have HFA6:=qh (HOA5.out.keptG hg6 HFA5.out).2;have HOB6:=qh (HOB5.out.keptG hg6 HFB5.out).1;have HFB6:=qh (HOB5.out.keptG hg6 HFB5.out).2;have HB6:=qh (HB5.out.trans (hg6.below (B:=w.heap.size) (by omega) (λ g hg=>Nat.le_trans (by omega) (Kw5 HO5.out g hg))));have HO6:=qh ho6;clear ho6 hg6))
 go_ret;exact⟨v6,rfl,by unfold Zv6;rw [<-HM.out,<-HN.out];have:=OIn.mono HO6.out (show w.heap.size<=W.heap.size by omega);simpa using this,HB6.out⟩
set_option maxRecDepth 100000 in
set_option maxHeartbeats 1000000 in
theorem ZH5 (a:Re) (ca:List Value) (IHa:K55 a) (hD:D<=w.heap.size) (hl:n+2*(a.size+1)<=1000)
 (h1:At6 w D A 0 ca) (ha:ReC w D a ca) (hcap:1<=cap) (hcap2:cap<=9223372036854775807):
 Calls Tryz.prog 120 #[.agg #[.int .i64 6,.int .u64 0,.int .u64 0,.int .u64 0,.int .u64 0,.slice A 1 cap],.int .i64 (n:Int)] w (YU5 (.star a) n w):=by
 obtain⟨ad,rfl⟩:∃ ad,A=some ad:=⟨_,h1.choose_spec.1⟩;obtain⟨a0,a1,a2,a3,a4,A5,l5,cap5,rfl⟩:=Qf4 ha;have hla:=k29 a (n+1);have hblD:ad.block<D:=(xb8 h1 (Below.refl _ _)).1;have hblw:ad.block<w.heap.size:=by omega
 obtain⟨W,hW⟩:∃ W,W=w.alloc (.cells #[.int .i64 6,.int .u64 0,.int .u64 0,.int .u64 0,.int .u64 0,.slice (some ad) 1 cap] 125):=⟨_,rfl⟩;have hWs:w.heap.size+1=W.heap.size:=by rw [hW];simp
 have hWb:Below w.heap.size w W:=by rw [hW];exact(Below.refl _ _).alloc (Nat.le_refl _) _
 have hK:Blk W w.heap.size 125 #[.int .i64 6,.int .u64 0,.int .u64 0,.int .u64 0,.int .u64 0,.slice (some ad) 1 cap]:=by rw [hW];exact Blk.new _ _ _
 obtain⟨d0,d1,d2,d3,d4,d5⟩:=xH2 h1 (Below.refl D w);have CA:=qh λ x (hx:x=((n+1:Nat):Int))=>IHa _ x (n+1) D W hx (ha.below (hWb.mono hD)) (by omega) (by omega)
 obtain⟨M,hM⟩:∃ M,M=Zv6 a (n+1):=⟨_,rfl⟩;rw [<-hM] at hla;have HW:=qh hW;have HWB:=qh hWb;have HK:=qh hK;have HM:=qh hM;clear hW hWb hK ha h1 IHa hM;go_enter Tryz.func120,Tryz.ntmps120;go_wp2_with fail;clear d0 d1 d2 d3 d4 d5;rw [<-HW.out];refine(CA.out _ (by first|rfl|(rw [Int.natCast_add];rfl))).mono ?_;rintro e w1 ⟨va,rfl,oa,ba⟩;rw [<-HM.out] at oa;have HOA:=qh oa;have HB1:=qh (HWB.out.trans (ba.mono (by omega)));have hs1:W.heap.size<=w1.heap.size:=ba.size;obtain⟨A1,c1,rfl⟩:=oa.form;clear oa ba CA;have HO1:=qh (OIn.nil w1 W.heap.size);have HOA1:=HOA;have HFA1:=qh (Off.nil (.slice A1 M.length c1))
 go_wp2_with (first
  |(at_builtin;refine Yq2 rfl (.tmp 103) (.tmp 112) rfl HO1.out rfl ⟨2,(n:Int)+1,(n:Int)+2+(M.length:Int),⟨0,0,0,0⟩⟩ rfl rfl (by simp only [List.length_append,List.length_cons,List.length_nil];omega) (by omega) ?_;intro v2 w2 ho2 hg2;have hs2:=hg2.grown.size;have HOA2:=qh (HOA1.out.keptG hg2 HFA1.out).1;have HFA2:=qh (HOA1.out.keptG hg2 HFA1.out).2;have HB2:=qh (HB1.out.trans (hg2.below (B:=w.heap.size) (by omega) (λ g hg=>Nat.le_trans (by omega) (Kw5 HO1.out g hg))));have HO2:=qh ho2;clear ho2 hg2)
  |(at_builtin;refine xT7 rfl (.tmp 114) (.tmp 115) rfl HO2.out rfl HOA2.out rfl (by simp only [List.length_append,List.length_cons,List.length_nil];omega) (by omega) ?_;intro v3 w3 ho3 hg3;have hs3:=hg3.grown.size;have HOA3:=qh (HOA2.out.keptG hg3 HFA2.out).1;have HFA3:=qh (HOA2.out.keptG hg3 HFA2.out).2;have HB3:=qh (HB2.out.trans (hg3.below (B:=w.heap.size) (by omega) (λ g hg=>Nat.le_trans (by omega) (Kw5 HO2.out g hg))));have HO3:=qh ho3;clear ho3 hg3)
  |(at_builtin;refine Yq2 rfl (.tmp 117) (.tmp 120) rfl HO3.out rfl ⟨3,(n:Int),0,⟨0,0,0,0⟩⟩ rfl rfl (by simp only [List.length_append,List.length_cons,List.length_nil];omega) (by omega) ?_;intro v4 w4 ho4 hg4;have hs4:=hg4.grown.size;have HOA4:=qh (HOA3.out.keptG hg4 HFA3.out).1;have HFA4:=qh (HOA3.out.keptG hg4 HFA3.out).2;have HB4:=qh (HB3.out.trans (hg4.below (B:=w.heap.size) (by omega) (λ g hg=>Nat.le_trans (by omega) (Kw5 HO3.out g hg))));have HO4:=qh ho4;clear ho4 hg4))
 go_ret;exact⟨v4,rfl,by unfold Zv6;rw [<-HM.out];have:=OIn.mono HO4.out (show w.heap.size<=W.heap.size by omega);simpa using this,HB4.out⟩
end
end Go.Proofs.YtngepacmgabmaaaGreatDoor
