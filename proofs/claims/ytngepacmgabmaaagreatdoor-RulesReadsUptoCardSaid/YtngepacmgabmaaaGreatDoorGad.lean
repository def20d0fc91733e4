/- Walks: wickref.code, wickref.Code, prog.; Walks: wickref.Code, prog.Make .. -/
import Derived.Test.YtngepacmgabmaaaGreatDoorGac
import Derived.Lib.SlBuf
namespace Go.Proofs.YtngepacmgabmaaaGreatDoor
open Go.RowKit
set_option linter.unusedVariables false
set_option linter.unusedSimpArgs false
section
variable {w w':World} {B:Nat} {v v' u u':Value} {l m:List In}
abbrev Off (v u:Value):Prop:=v.ownBlock=none\/v.ownBlock≠u.ownBlock
theorem Off.nil (v:Value):Off v (.slice none 0 0):=by
 rcases h:v.ownBlock with _|x
 . exact .inl h
 . exact .inr (by rw [h];intro e;cases e)
theorem OIn.keptG (h:OIn w B v l) (hg:Grew w w' u u') (ho:Off v u):OIn w' B v l/\Off v u':=by
 refine⟨World.ownsRow.kept h hg.grown ho,?_⟩;rcases hv:v.ownBlock with _|x
 . exact .inl hv
 . have hx:=(World.ownsRow.lt h x hv).2;refine .inr ?_;rcases hg.home with e|⟨y,e,hy⟩
   . rcases ho with h0|h0
     . rw [hv] at h0;cases h0
     . rw [e];exact h0
   . rw [hv,e];intro e2;injection e2 with e2;omega
theorem OIn.mono {B':Nat} (h:OIn w B v l) (hB:B'<=B):OIn w B' v l:=by
 refine⟨h.1,?_⟩;rcases h.2 with h2|⟨g,cap,cur,e1,e2,e3⟩
 . exact .inl h2
 . exact .inr ⟨g,cap,cur,e1,Nat.le_trans hB e2,e3⟩
theorem OIn.reads {A0:Option Addr} {n0 c0:Nat} (h:OIn w B (.slice A0 n0 c0) l):Reads w w.heap.size 7 A0 l.length (ZW1 l):=Reads.of_own (c:=c0) (by
 have:=h.form;obtain⟨A,c,e⟩:=this;injection e with e1 e2 e3;subst e1 e2 e3;exact h)
theorem jz7:∀ u∈ZW1 l,u.oneCell'=true:=by
 intro u hu;unfold ZW1 at hu;obtain⟨i,_,hi⟩:=List.mem_flatMap.1 hu;simp only [In.cs,inCs,List.mem_cons,List.not_mem_nil,or_false] at hi;rcases hi with rfl|rfl|rfl|rfl|rfl|rfl|rfl<;>rfl
theorem Xl9 {ops:Array Oper} {rest:List Oper} {o:Oper} {a:Act} {Q:Exit->Act->World->Prop} {B2:Nat} {A:Option Addr} {c:Nat} (hgd:o.guard=none) (s x:Operand)
 (ho:o.op= .call {callee:= .builtin .append,args:=#[s,x],argTypes:=#[129,129]})
 (h:OIn w B v l) (hs:a.eval s=v) (h2:OIn w B2 (.slice A m.length c) m) (hx:a.eval x= .slice A m.length c) (hlen:l.length+m.length<=1000000) (hB:B<=w.heap.size)
 (hK:∀ v' w',OIn w' B v' (l++m)->Grew w w' v v'->wpList Tryz.prog ops Q rest (a.put o.dst v') w'):
 wpList Tryz.prog ops Q (o::rest) a w:=by
 obtain⟨i0,hi0,hz0,hz1,hz2⟩:=info_parts y18;refine Yk6 w hgd s x _ ho B 162 i0 _ 7 56 Tryz.underlying129 hi0 hz0 hz1 hz2 rfl (by decide) v l.length (ZW1 l) hs h w.heap.size A m.length c (ZW1 m) hx h2.reads jz7 (by unfold maxLen;omega) (by omega) hB λ v' w' h3 h4 h5=>hK v' w' (by unfold OIn;rw [List.length_append,zF2];exact h3) ⟨h4,?_⟩
 rcases h5 with h5|h5
 . exact .inl h5
 . exact .inr ⟨_,h5,Nat.le_refl _⟩
theorem OIn.lit (w:World) (hB:B<=w.heap.size) (i:In):OIn (w.alloc (.cells #[.int .i64 i.k,.int .i64 i.a,.int .i64 i.b,.int .u64 (i.s.a:Int),.int .u64 (i.s.b:Int),.int .u64 (i.s.c:Int),.int .u64 (i.s.d:Int)] 162)) B (.slice (some ⟨w.heap.size,0,none⟩) 1 1) [i]:=by
 have:=World.ownsRow_lit (base:=B) (e:=162) (size:=7) w #[.int .i64 i.k,.int .i64 i.a,.int .i64 i.b,.int .u64 (i.s.a:Int),.int .u64 (i.s.b:Int),.int .u64 (i.s.c:Int),.int .u64 (i.s.d:Int)] 1 hB (by unfold maxLen;omega) rfl;unfold OIn;rw [x91];exact this
end
def YU5 (q:Re) (n:Nat) (w:World) (e:Ending) (w':World):Prop:=∃ v',e= .returned v'/\OIn w' w.heap.size v' (Zv6 q n)/\Below w.heap.size w w'
def K55 (q:Re):Prop:=∀ (cs:List Value) (x:Int) (n D:Nat) (w:World),x=(n:Int)->ReC w D q cs->D<=w.heap.size->n+2*q.size<=1000->
 Calls Tryz.prog 120 #[.agg cs.toArray,.int .i64 x] w (YU5 q n w)
section
variable (n D:Nat) (w:World) (A:Option Addr) (cap:Nat)
set_option maxRecDepth 100000 in
set_option maxHeartbeats 1000000 in
theorem Xp3:Calls Tryz.prog 120 #[.agg #[.int .i64 1,.int .u64 0,.int .u64 0,.int .u64 0,.int .u64 0,.slice A 0 cap],.int .i64 (n:Int)] w (YU5 .none n w):=by
 go_enter Tryz.func120,Tryz.ntmps120;go_wp2_with fail;go_ret;exact⟨.slice (some ⟨w.heap.size+1,0,none⟩) 1 1,rfl,by have:=OIn.lit (B:=w.heap.size) (w.alloc (.cells #[.int .i64 1,.int .u64 0,.int .u64 0,.int .u64 0,.int .u64 0,.slice A 0 cap] 125)) (by simp) ⟨1,0,0,⟨0,0,0,0⟩⟩;simpa [Zv6] using this,((Below.refl _ _).alloc (Nat.le_refl _) _).alloc (by simp) _⟩
set_option maxRecDepth 100000 in
set_option maxHeartbeats 1000000 in
theorem XT2:Calls Tryz.prog 120 #[.agg #[.int .i64 7,.int .u64 0,.int .u64 0,.int .u64 0,.int .u64 0,.slice A 0 cap],.int .i64 (n:Int)] w (YU5 .beg n w):=by
 go_enter Tryz.func120,Tryz.ntmps120;go_wp2_with fail;go_ret;exact⟨.slice (some ⟨w.heap.size+1,0,none⟩) 1 1,rfl,by have:=OIn.lit (B:=w.heap.size) (w.alloc (.cells #[.int .i64 7,.int .u64 0,.int .u64 0,.int .u64 0,.int .u64 0,.slice A 0 cap] 125)) (by simp) ⟨4,0,0,⟨0,0,0,0⟩⟩;simpa [Zv6] using this,((Below.refl _ _).alloc (Nat.le_refl _) _).alloc (by simp) _⟩
set_option maxRecDepth 100000 in
set_option maxHeartbeats 1000000 in
theorem ZM2:Calls Tryz.prog 120 #[.agg #[.int .i64 8,.int .u64 0,.int .u64 0,.int .u64 0,.int .u64 0,.slice A 0 cap],.int .i64 (n:Int)] w (YU5 .fin n w):=by
 go_enter Tryz.func120,Tryz.ntmps120;go_wp2_with fail;go_ret;exact⟨.slice (some ⟨w.heap.size+1,0,none⟩) 1 1,rfl,by have:=OIn.lit (B:=w.heap.size) (w.alloc (.cells #[.int .i64 8,.int .u64 0,.int .u64 0,.int .u64 0,.int .u64 0,.slice A 0 cap] 125)) (by simp) ⟨5,0,0,⟨0,0,0,0⟩⟩;simpa [Zv6] using this,((Below.refl _ _).alloc (Nat.le_refl _) _).alloc (by simp) _⟩
set_option maxRecDepth 100000 in
set_option maxHeartbeats 1000000 in
theorem JK1 (s:Q4):Calls Tryz.prog 120 #[.agg #[.int .i64 3,.int .u64 (s.a:Int),.int .u64 (s.b:Int),.int .u64 (s.c:Int),.int .u64 (s.d:Int),.slice A 0 cap],.int .i64 (n:Int)] w (YU5 (.byte s) n w):=by
 go_enter Tryz.func120,Tryz.ntmps120;go_wp2_with fail;go_ret;exact⟨.slice (some ⟨w.heap.size+1,0,none⟩) 1 1,rfl,by have:=OIn.lit (B:=w.heap.size) (w.alloc (.cells #[.int .i64 3,.int .u64 (s.a:Int),.int .u64 (s.b:Int),.int .u64 (s.c:Int),.int .u64 (s.d:Int),.slice A 0 cap] 125)) (by simp) ⟨1,0,0,s⟩;simpa [Zv6] using this,((Below.refl _ _).alloc (Nat.le_refl _) _).alloc (by simp) _⟩
set_option maxRecDepth 100000 in
set_option maxHeartbeats 1000000 in
theorem xN2:Calls Tryz.prog 120 #[.agg #[.int .i64 2,.int .u64 0,.int .u64 0,.int .u64 0,.int .u64 0,.slice A 0 cap],.int .i64 (n:Int)] w (YU5 .empty n w):=by
 go_enter Tryz.func120,Tryz.ntmps120;go_wp2_with fail;go_ret;exact⟨.slice none 0 0,rfl,by unfold Zv6;exact OIn.nil _ _,(Below.refl _ _).alloc (Nat.le_refl _) _⟩
set_option maxRecDepth 100000 in
set_option maxHeartbeats 1000000 in
theorem QP6 (a b:Re) (ca cb:List Value) (IHa:K55 a) (IHb:K55 b) (hD:D<=w.heap.size) (hl:n+2*(a.size+b.size+1)<=1000)
 (h1:At6 w D A 0 ca) (h2:At6 w D A 1 cb) (ha:ReC w D a ca) (hb:ReC w D b cb) (hcap:2<=cap) (hcap2:cap<=9223372036854775807):
 Calls Tryz.prog 120 #[.agg #[.int .i64 4,.int .u64 0,.int .u64 0,.int .u64 0,.int .u64 0,.slice A 2 cap],.int .i64 (n:Int)] w (YU5 (.cat a b) n w):=by
 obtain⟨ad,rfl⟩:∃ ad,A=some ad:=⟨_,h1.choose_spec.1⟩;obtain⟨a0,a1,a2,a3,a4,A5,l5,cap5,rfl⟩:=Qf4 ha;obtain⟨b0,b1,b2,b3,b4,B5,m5,capb,rfl⟩:=Qf4 hb;have hla:=k29 a (n);have hblD:ad.block<D:=(xb8 h1 (Below.refl _ _)).1;have hblw:ad.block<w.heap.size:=by omega
 obtain⟨W,hW⟩:∃ W,W=w.alloc (.cells #[.int .i64 4,.int .u64 0,.int .u64 0,.int .u64 0,.int .u64 0,.slice (some ad) 2 cap] 125):=⟨_,rfl⟩;have hWs:w.heap.size+1=W.heap.size:=by rw [hW];simp
 have hWb:Below w.heap.size w W:=by rw [hW];exact(Below.refl _ _).alloc (Nat.le_refl _) _
 have hK:Blk W w.heap.size 125 #[.int .i64 4,.int .u64 0,.int .u64 0,.int .u64 0,.int .u64 0,.slice (some ad) 2 cap]:=by rw [hW];exact Blk.new _ _ _
 obtain⟨d0,d1,d2,d3,d4,d5⟩:=xH2 h1 (Below.refl D w);have CA:=qh λ x (hx:x=((n:Nat):Int))=>IHa _ x (n) D W hx (ha.below (hWb.mono hD)) (by omega) (by omega)
 have H2:=qh λ w' hk=>kid1 (w':=w') h2 hk
 have CB:=qh λ w2 x (hx:x=((n+(Zv6 a (n)).length:Nat):Int)) (hb2:Below D w w2) (hs:D<=w2.heap.size)=>IHb _ x (n+(Zv6 a (n)).length) D w2 hx (hb.below hb2) hs (by omega)
 have hlb:=k29 b (n+(Zv6 a (n)).length);obtain⟨M,hM⟩:∃ M,M=Zv6 a (n):=⟨_,rfl⟩;rw [<-hM] at hla CB hlb;obtain⟨N,hN⟩:∃ N,N=Zv6 b (n+M.length):=⟨_,rfl⟩;rw [<-hN] at hlb;have HN:=qh hN;have HW:=qh hW;have HWB:=qh hWb;have HK:=qh hK;have HM:=qh hM;clear hW hWb hK ha h1 IHa hM hb h2 IHb hN;go_enter Tryz.func120,Tryz.ntmps120;go_wp2_with fail;clear d0 d1 d2 d3 d4 d5;rw [<-HW.out];refine(CA.out _ (by first|rfl|(rw [Int.natCast_add];rfl))).mono ?_;rintro e w1 ⟨va,rfl,oa,ba⟩;rw [<-HM.out] at oa;have HOA:=qh oa;have HB1:=qh (HWB.out.trans (ba.mono (by omega)));have hs1:W.heap.size<=w1.heap.size:=ba.size;have hbl1:ad.block<w1.heap.size:=by omega
 have k5:=Blk.e5 (HK.out.below ba (by omega));obtain⟨d0,d1,d2,d3,d4,d5⟩:=H2.out w1 (HB1.out.mono hD);obtain⟨A1,c1,rfl⟩:=oa.form;clear oa ba CA;go_wp2_with fail;refine(CB.out w1 _ (by simp only [Int.natCast_add];try rfl) (HB1.out.mono hD) (by omega)).mono ?_;rintro e w2 ⟨vb,rfl,ob,bb⟩;rw [<-HN.out] at ob;have HOA2:=qh (HOA.out.below bb);have HOB2:=qh ob;have HB2:=qh (HB1.out.trans (bb.mono (by omega)));have hs2:w1.heap.size<=w2.heap.size:=bb.size;obtain⟨A2,c2,rfl⟩:=ob.form;clear ob bb CB d0 d1 d2 d3 d4 d5 k5;go_wp2_with (at_builtin;go_loud (refine Xl9 rfl (.tmp 35) (.tmp 44) rfl HOA2.out rfl HOB2.out rfl (by omega) (by omega) ?_;intro v3 w3 ho3 hg3;have HO3:=qh ho3;have HB3:=qh (HB2.out.trans (hg3.below (B:=w.heap.size) (by omega) (λ g hg=>Nat.le_trans (by omega) (Kw5 HOA2.out g hg))));clear ho3 hg3));go_ret;exact⟨v3,rfl,by unfold Zv6;rw [<-HM.out,<-HN.out];exact OIn.mono HO3.out (by omega),HB3.out⟩
set_option maxRecDepth 100000 in
set_option maxHeartbeats 1000000 in
theorem xe2 (a b:Re) (ca cb:List Value) (IHa:K55 a) (IHb:K55 b) (hD:D<=w.heap.size) (hl:n+2*(a.size+b.size+1)<=1000)
 (h1:At6 w D A 0 ca) (h2:At6 w D A 1 cb) (ha:ReC w D a ca) (hb:ReC w D b cb) (hcap:2<=cap) (hcap2:cap<=9223372036854775807):
 Calls Tryz.prog 120 #[.agg #[.int .i64 5,.int .u64 0,.int .u64 0,.int .u64 0,.int .u64 0,.slice A 2 cap],.int .i64 (n:Int)] w (YU5 (.alt a b) n w):=by
 obtain⟨ad,rfl⟩:∃ ad,A=some ad:=⟨_,h1.choose_spec.1⟩;obtain⟨a0,a1,a2,a3,a4,A5,l5,cap5,rfl⟩:=Qf4 ha;obtain⟨b0,b1,b2,b3,b4,B5,m5,capb,rfl⟩:=Qf4 hb;have hla:=k29 a (n+1);have hblD:ad.block<D:=(xb8 h1 (Below.refl _ _)).1;have hblw:ad.block<w.heap.size:=by omega
 obtain⟨W,hW⟩:∃ W,W=w.alloc (.cells #[.int .i64 5,.int .u64 0,.int .u64 0,.int .u64 0,.int .u64 0,.slice (some ad) 2 cap] 125):=⟨_,rfl⟩;have hWs:w.heap.size+1=W.heap.size:=by rw [hW];simp
 have hWb:Below w.heap.size w W:=by rw [hW];exact(Below.refl _ _).alloc (Nat.le_refl _) _
 have hK:Blk W w.heap.size 125 #[.int .i64 5,.int .u64 0,.int .u64 0,.int .u64 0,.int .u64 0,.slice (some ad) 2 cap]:=by rw [hW];exact Blk.new _ _ _
 obtain⟨d0,d1,d2,d3,d4,d5⟩:=xH2 h1 (Below.refl D w);have CA:=qh λ x (hx:x=((n+1:Nat):Int))=>IHa _ x (n+1) D W hx (ha.below (hWb.mono hD)) (by omega) (by omega)
 have H2:=qh λ w' hk=>kid1 (w':=w') h2 hk
 have CB:=qh λ w2 x (hx:x=((n+2+(Zv6 a (n+1)).length:Nat):Int)) (hb2:Below D w w2) (hs:D<=w2.heap.size)=>IHb _ x (n+2+(Zv6 a (n+1)).length) D w2 hx (hb.below hb2) hs (by omega)
 have hlb:=k29 b (n+2+(Zv6 a (n+1)).length);obtain⟨M,hM⟩:∃ M,M=Zv6 a (n+1):=⟨_,rfl⟩;rw [<-hM] at hla CB hlb;obtain⟨N,hN⟩:∃ N,N=Zv6 b (n+2+M.length):=⟨_,rfl⟩;rw [<-hN] at hlb;have HN:=qh hN;have HW:=qh hW;have HWB:=qh hWb;have HK:=qh hK;have HM:=qh hM;clear hW hWb hK ha h1 IHa hM hb h2 IHb hN;go_enter Tryz.func120,Tryz.ntmps120;go_wp2_with fail;clear d0 d1 d2 d3 d4 d5;rw [<-HW.out];refine(CA.out _ (by first|rfl|(rw [Int.natCast_add];rfl))).mono ?_;rintro e w1 ⟨va,rfl,oa,ba⟩;rw [<-HM.out] at oa;have HOA:=qh oa;have HB1:=qh (HWB.out.trans (ba.mono (by omega)));have hs1:W.heap.size<=w1.heap.size:=ba.size;have hbl1:ad.block<w1.heap.size:=by omega
 have k5:=Blk.e5 (HK.out.below ba (by omega));obtain⟨d0,d1,d2,d3,d4,d5⟩:=H2.out w1 (HB1.out.mono hD);obtain⟨A1,c1,rfl⟩:=oa.form;clear oa ba CA;go_wp2_with fail;refine(CB.out w1 _ (by simp only [Int.natCast_add];try rfl) (HB1.out.mono hD) (by omega)).mono ?_;rintro e w2 ⟨vb,rfl,ob,bb⟩;rw [<-HN.out] at ob;have HOA2:=qh (HOA.out.below bb);have HOB2:=qh ob;have HB2:=qh (HB1.out.trans (bb.mono (by omega)));have hs2:w1.heap.size<=w2.heap.size:=bb.size;obtain⟨A2,c2,rfl⟩:=ob.form;clear ob bb CB d0 d1 d2 d3 d4 d5 k5;have HO2:=qh (OIn.nil w2 W.heap.size);have HFA2:=qh (Off.nil (.slice A1 M.length c1));have HFB2:=qh (Off.nil (.slice A2 N.length c2))
 go_wp2_with (first
  |(at_builtin;refine Yq2 rfl (.tmp 65) (.tmp 74) rfl HO2.out rfl ⟨2,(n:Int)+1,(n:Int)+2+(M.length:Int),⟨0,0,0,0⟩⟩ rfl rfl (by simp only [List.length_append,List.length_cons,List.length_nil];omega) (by omega) ?_;intro v3 w3 ho3 hg3;have hs3:=hg3.grown.size;have HOA3:=qh (HOA2.out.keptG hg3 HFA2.out).1;have HFA3:=qh (HOA2.out.keptG hg3 HFA2.out).2;have HOB3:=qh (HOB2.out.keptG hg3 HFB2.out).1;have HFB3:=qh (HOB2.out.keptG hg3 HFB2.out).2;have HB3:=qh (HB2.out.trans (hg3.below (B:=w.heap.size) (by omega) (λ g hg=>Nat.le_trans (by omega) (Kw5 HO2.out g hg))));have HO3:=qh ho3;clear ho3 hg3)
  |(at_builtin;refine Xl9 rfl (.tmp 76) (.tmp 77) rfl HO3.out rfl HOA3.out rfl (by simp only [List.length_append,List.length_cons,List.length_nil];omega) (by omega) ?_;intro v4 w4 ho4 hg4;have hs4:=hg4.grown.size;have HOA4:=qh (HOA3.out.keptG hg4 HFA3.out).1;have HFA4:=qh (HOA3.out.keptG hg4 HFA3.out).2;have HOB4:=qh (HOB3.out.keptG hg4 HFB3.out).1;have HFB4:=qh (HOB3.out.keptG hg4 HFB3.out).2;have HB4:=qh (HB3.out.trans (hg4.below (B:=w.heap.size) (by omega) (λ g hg=>Nat.le_trans (by omega) (Kw5 HO3.out g hg))));have HO4:=qh ho4;clear ho4 hg4)
  |(at_builtin;refine Yq2 rfl (.tmp 79) (.tmp 89) rfl HO4.out rfl ⟨3,(n:Int)+2+(M.length:Int)+(N.length:Int),0,⟨0,0,0,0⟩⟩ rfl rfl (by simp only [List.length_append,List.length_cons,List.length_nil];omega) (by omega) ?_;intro v5 w5 ho5 hg5;have hs5:=hg5.grown.size;have HOA5:=qh (HOA4.out.keptG hg5 HFA4.out).1;have HFA5:=qh (HOA4.out.keptG hg5 HFA4.out).2;have HOB5:=qh (HOB4.out.keptG hg5 HFB4.out).1;have HFB5:=qh (HOB4.out.keptG hg5 HFB4.out).2;have HB5:=qh (HB4.out.trans (hg5.below (B:=w.heap.size) (by omega) (λ g hg=>Nat.le_trans (by omega) (Kw5 HO4.out g hg))));have HO5:=qh ho5;clear ho5 hg5)
  |(at_builtin;refine Xl9 rfl (.tmp 91) (.tmp 92) rfl HO5.out rfl HOB5.out rfl (by simp only [List.length_append,List.length_cons,List.length_nil];omega) (by omega) ?_;intro v6 w6 ho6 hg6;have hs6:=hg6.grown.size;have HOA6:=qh (HOA5.out.keptG hg6 HFA5.out).1;have HFA6:=qh (HOA5.out.keptG hg6 HFA5.out).2;have HOB6:=qh (HOB5.out.keptG hg6 HFB5.out).1;have HFB6:=qh (HOB5.out.keptG hg6 HFB5.out).2;have HB6:=qh (HB5.out.trans (hg6.below (B:=w.heap.size) (by omega) (λ g hg=>Nat.le_trans (by omega) (Kw5 HO5.out g hg))));have HO6:=qh ho6;clear ho6 hg6))
 go_ret;exact⟨v6,rfl,by unfold Zv6;rw [<-HM.out,<-HN.out];have:=OIn.mono HO6.out (show w.heap.size<=W.heap.size by omega);simpa using this,HB6.out⟩
set_option maxRecDepth 100000 in
set_option maxHeartbeats 1000000 in
theorem ZH5 (a:Re) (ca:List Value) (IHa:K55 a) (hD:D<=w.heap.size) (hl:n+2*(a.size+1)<=1000)
 (h1:At6 w D A 0 ca) (ha:ReC w D a ca) (hcap:1<=cap) (hcap2:cap<=9223372036854775807):
 Calls Tryz.prog 120 #[.agg #[.int .i64 6,.int .u64 0,.int .u64 0,.int .u64 0,.int .u64 0,.slice A 1 cap],.int .i64 (n:Int)] w (YU5 (.star a) n w):=by
 obtain⟨ad,rfl⟩:∃ ad,A=some ad:=⟨_,h1.choose_spec.1⟩;obtain⟨a0,a1,a2,a3,a4,A5,l5,cap5,rfl⟩:=Qf4 ha;have hla:=k29 a (n+1);have hblD:ad.block<D:=(xb8 h1 (Below.refl _ _)).1;have hblw:ad.block<w.heap.size:=by omega
 obtain⟨W,hW⟩:∃ W,W=w.alloc (.cells #[.int .i64 6,.int .u64 0,.int .u64 0,.int .u64 0,.int .u64 0,.slice (some ad) 1 cap] 125):=⟨_,rfl⟩;have hWs:w.heap.size+1=W.heap.size:=by rw [hW];simp
 have hWb:Below w.heap.size w W:=by rw [hW];exact(Below.refl _ _).alloc (Nat.le_refl _) _
 have hK:Blk W w.heap.size 125 #[.int .i64 6,.int .u64 0,.int .u64 0,.int .u64 0,.int .u64 0,.slice (some ad) 1 cap]:=by rw [hW];exact Blk.new _ _ _
 obtain⟨d0,d1,d2,d3,d4,d5⟩:=xH2 h1 (Below.refl D w);have CA:=qh λ x (hx:x=((n+1:Nat):Int))=>IHa _ x (n+1) D W hx (ha.below (hWb.mono hD)) (by omega) (by omega)
 obtain⟨M,hM⟩:∃ M,M=Zv6 a (n+1):=⟨_,rfl⟩;rw [<-hM] at hla;have HW:=qh hW;have HWB:=qh hWb;have HK:=qh hK;have HM:=qh hM;clear hW hWb hK ha h1 IHa hM;go_enter Tryz.func120,Tryz.ntmps120;go_wp2_with fail;clear d0 d1 d2 d3 d4 d5;rw [<-HW.out];refine(CA.out _ (by first|rfl|(rw [Int.natCast_add];rfl))).mono ?_;rintro e w1 ⟨va,rfl,oa,ba⟩;rw [<-HM.out] at oa;have HOA:=qh oa;have HB1:=qh (HWB.out.trans (ba.mono (by omega)));have hs1:W.heap.size<=w1.heap.size:=ba.size;obtain⟨A1,c1,rfl⟩:=oa.form;clear oa ba CA;have HO1:=qh (OIn.nil w1 W.heap.size);have HOA1:=HOA;have HFA1:=qh (Off.nil (.slice A1 M.length c1))
 go_wp2_with (first
  |(at_builtin;refine Yq2 rfl (.tmp 103) (.tmp 112) rfl HO1.out rfl ⟨2,(n:Int)+1,(n:Int)+2+(M.length:Int),⟨0,0,0,0⟩⟩ rfl rfl (by simp only [List.length_append,List.length_cons,List.length_nil];omega) (by omega) ?_;intro v2 w2 ho2 hg2;have hs2:=hg2.grown.size;have HOA2:=qh (HOA1.out.keptG hg2 HFA1.out).1;have HFA2:=qh (HOA1.out.keptG hg2 HFA1.out).2;have HB2:=qh (HB1.out.trans (hg2.below (B:=w.heap.size) (by omega) (λ g hg=>Nat.le_trans (by omega) (Kw5 HO1.out g hg))));have HO2:=qh ho2;clear ho2 hg2)
  |(at_builtin;refine Xl9 rfl (.tmp 114) (.tmp 115) rfl HO2.out rfl HOA2.out rfl (by simp only [List.length_append,List.length_cons,List.length_nil];omega) (by omega) ?_;intro v3 w3 ho3 hg3;have hs3:=hg3.grown.size;have HOA3:=qh (HOA2.out.keptG hg3 HFA2.out).1;have HFA3:=qh (HOA2.out.keptG hg3 HFA2.out).2;have HB3:=qh (HB2.out.trans (hg3.below (B:=w.heap.size) (by omega) (λ g hg=>Nat.le_trans (by omega) (Kw5 HO2.out g hg))));have HO3:=qh ho3;clear ho3 hg3)
  |(at_builtin;refine Yq2 rfl (.tmp 117) (.tmp 120) rfl HO3.out rfl ⟨3,(n:Int),0,⟨0,0,0,0⟩⟩ rfl rfl (by simp only [List.length_append,List.length_cons,List.length_nil];omega) (by omega) ?_;intro v4 w4 ho4 hg4;have hs4:=hg4.grown.size;have HOA4:=qh (HOA3.out.keptG hg4 HFA3.out).1;have HFA4:=qh (HOA3.out.keptG hg4 HFA3.out).2;have HB4:=qh (HB3.out.trans (hg4.below (B:=w.heap.size) (by omega) (λ g hg=>Nat.le_trans (by omega) (Kw5 HO3.out g hg))));have HO4:=qh ho4;clear ho4 hg4))
 go_ret;exact⟨v4,rfl,by unfold Zv6;rw [<-HM.out];have:=OIn.mono HO4.out (show w.heap.size<=W.heap.size by omega);simpa using this,HB4.out⟩
end
theorem qK5:∀ q:Re,K55 q
 | .none=>by rintro cs x n D w rfl ⟨A,cap,rfl⟩ hD hl;exact Xp3 n w A cap
 | .empty=>by rintro cs x n D w rfl ⟨A,cap,rfl⟩ hD hl;exact xN2 n w A cap
 | .byte s=>by rintro cs x n D w rfl ⟨hs,hz,A,cap,rfl⟩ hD hl;exact JK1 n w A cap s
 | .beg=>by rintro cs x n D w rfl ⟨A,cap,rfl⟩ hD hl;exact XT2 n w A cap
 | .fin=>by rintro cs x n D w rfl ⟨A,cap,rfl⟩ hD hl;exact ZM2 n w A cap
 | .cat a b=>by rintro cs x n D w rfl ⟨A,cap,ca,cb,rfl,h1,h2,h3,h4,h5,h6⟩ hD hl;exact QP6 n D w A cap a b ca cb (qK5 a) (qK5 b) hD (by simp only [Re.size] at hl;omega) h3 h4 h5 h6 h1 h2
 | .alt a b=>by rintro cs x n D w rfl ⟨A,cap,ca,cb,rfl,h1,h2,h3,h4,h5,h6⟩ hD hl;exact xe2 n D w A cap a b ca cb (qK5 a) (qK5 b) hD (by simp only [Re.size] at hl;omega) h3 h4 h5 h6 h1 h2
 | .star a=>by rintro cs x n D w rfl ⟨A,cap,ca,rfl,h1,h2,h3,h4⟩ hD hl;exact ZH5 n D w A cap a ca (qK5 a) hD (by simp only [Re.size] at hl;omega) h3 h4 h1 h2
def zz8 (q:Re):List In:=Zv6 q 0++ [⟨6,0,0,⟨0,0,0,0⟩⟩]
def ZD4 (q:Re) (w:World) (e:Ending) (w':World):Prop:=∃ v',e= .returned v'/\OIn w' w.heap.size v' (zz8 q)/\Below w.heap.size w w'
set_option maxHeartbeats 1000000 in
theorem Qe6 (q:Re) (cs:List Value) (D:Nat) (w:World) (h:ReC w D q cs) (hD:D<=w.heap.size) (hq:q.size<=80):
 Calls Tryz.prog 90 #[.agg cs.toArray] w (ZD4 q w):=by
 obtain⟨a0,a1,a2,a3,a4,A5,l5,cap5,rfl⟩:=Qf4 h;obtain⟨W,hW⟩:∃ W,W=w.alloc (.cells #[.int .i64 a0,.int .u64 a1,.int .u64 a2,.int .u64 a3,.int .u64 a4,.slice A5 l5 cap5] 125):=⟨_,rfl⟩;have hWb:Below w.heap.size w W:=by rw [hW];exact(Below.refl _ _).alloc (Nat.le_refl _) _
 have hlc:=k29 q 0;have C:=qh (qK5 q _ 0 0 D W rfl (h.below (hWb.mono hD)) (by have:=hWb.size;omega) (by omega));have HWB:=qh hWb;have HW:=qh hW;clear hW hWb h;go_enter Tryz.func90,Tryz.ntmps90;go_wp2_with fail;rw [<-HW.out];refine C.out.mono ?_;rintro e w1 ⟨v1,rfl,o1,b1⟩;have HO1:=qh o1;have HB1:=qh (HWB.out.trans (b1.mono HWB.out.size));have hs1:W.heap.size<=w1.heap.size:=b1.size;clear o1 b1;go_wp2_with (at_builtin;refine Yq2 rfl (.tmp 4) (.tmp 6) rfl HO1.out rfl ⟨6,0,0,⟨0,0,0,0⟩⟩ rfl rfl (by omega) hs1 ?_;intro v2 w2 ho2 hg2;have HO2:=qh ho2;have HB2:=qh (HB1.out.trans (hg2.below (B:=w.heap.size) HB1.out.size (λ g hg=>Nat.le_trans HWB.out.size (Kw5 HO1.out g hg))));clear ho2 hg2);go_ret;exact⟨v2,rfl,OIn.mono HO2.out HWB.out.size,HB2.out⟩
set_option maxHeartbeats 1000000 in
theorem Zi7 (n:Nat) (r:Rx) (q:Re) (cs:List Value) (B:Nat) (w:World) (h:RxC w B n r cs) (hB:B<=w.heap.size) (h0:Xm7 n r=0) (hq:ReC w B q cs) (hz:q.size<=80):
 Calls Tryz.prog 103 #[.agg cs.toArray] w λ e w'=>∃ v',e= .returned (.tuple #[v',.int .i64 0])/\OIn w' w.heap.size v' (zz8 q)/\Below w.heap.size w w':=by
 obtain⟨a0,a1,a2,a3,a4,A5,l5,cap5,rfl⟩:=h.six;obtain⟨W,hW⟩:∃ W,W=w.alloc (.cells #[.int .i64 a0,.int .u64 a1,.int .u64 a2,.int .u64 a3,.int .u64 a4,.slice A5 l5 cap5] 125):=⟨_,rfl⟩;have hWb:Below w.heap.size w W:=by rw [hW];exact(Below.refl _ _).alloc (Nat.le_refl _) _
 have hK:Blk W w.heap.size 125 #[.int .i64 a0,.int .u64 a1,.int .u64 a2,.int .u64 a3,.int .u64 a4,.slice A5 l5 cap5]:=by rw [hW];exact Blk.new _ _ _
 have C:=qh (qG8 n r _ B W (h.below (hWb.mono hB)) (by have:=hWb.size;omega));rw [h0] at C;have hlc:=k29 q 0;have CM:=qh λ w1 (hb:Below B W w1) (hs:B<=w1.heap.size)=>ZO9 q _ [] (.slice none 0 0) w1.heap.size B w1 ((hq.below (hWb.mono hB)).below hb) hs (Nat.le_refl _) (OIn.nil _ _) (by simp;omega)
 have HWB:=qh hWb;have HW:=qh hW;have HK:=qh hK;clear hW hWb h h0 hq hK;go_enter Tryz.func103,Tryz.ntmps103;go_wp2_with fail;rw [<-HW.out];refine C.out.mono ?_;rintro e w1 ⟨rfl,b1⟩;have hWs:w.heap.size<=W.heap.size:=HWB.out.size;have hs1:W.heap.size<=w1.heap.size:=b1.size;have HB1:=qh (HWB.out.trans (b1.mono hWs));have CM1:=qh (CM.out w1 (b1.mono (by omega)) (by omega));have hK1:=HK.out.below b1 HK.out.lt;obtain⟨k0,k1,k2,k3,k4,k5⟩:=Blk.c6 hK1;clear b1 C CM hK1;go_wp2_with fail;refine CM1.out.mono ?_;rintro e w2 ⟨v2,rfl,ho2,hg2⟩;have HO2:=qh ho2;have HB2:=qh (HB1.out.trans (hg2.below (B:=w.heap.size) (by omega) (λ g hg=>by cases hg)));have hs2:w1.heap.size<=w2.heap.size:=hg2.grown.size;clear ho2 hg2 k0 k1 k2 k3 k4 k5;go_wp2_with (at_builtin;refine Yq2 rfl (.tmp 11) (.tmp 13) rfl HO2.out rfl ⟨6,0,0,⟨0,0,0,0⟩⟩ rfl rfl (by simp;omega) hs2 ?_;intro v3 w3 ho3 hg3;have HO3:=qh ho3;have HB3:=qh (HB2.out.trans (hg3.below (B:=w.heap.size) (by omega) (λ g hg=>Nat.le_trans (by omega) (Kw5 HO2.out g hg))));clear ho3 hg3);go_ret2;exact⟨v3,rfl,OIn.mono HO3.out (by omega),HB3.out⟩



theorem BoR.reads {w:World} {b N:Nat} {f:Nat->Bool} (h:BoR w b N f):Reads w (b+1) 1 (some ⟨b,0,none⟩) N ((List.range N).map λ i=>Value.bool (f i)):=
 ⟨by simp,λ hn=>⟨_,rfl,Nat.lt_succ_self b,λ j u hu=>by
  have hadd:(⟨b,0,none⟩:Addr).add j=⟨b,j,none⟩:=by unfold Addr.add;split<;>simp_all
  obtain⟨hj,rfl⟩:=List.getElem?_eq_some_iff.1 hu;simp only [List.length_map,List.length_range] at hj;rw [hadd,h.cell j hj];simp⟩⟩
theorem BoR.of_own {w:World} {B N:Nat} {v:Value} {f:Nat->Bool} (h:w.ownsRow B 4 1 v N ((List.range N).map λ i=>Value.bool (f i))) (hN:0<N):
 ∃ g cap,v= .slice (some ⟨g,0,none⟩) N cap/\B<=g/\BoR w g N f:=by
 have h':=h;rcases h.2 with⟨_,h2⟩|⟨g,cap,cur,rfl,hb,hh,_⟩
 . omega
 . exact⟨g,cap,rfl,hb,Blk.lt (t:=4) (cs:=cur) hh,λ i hi=>by rw [World.ownsRow.cellAt h' i (by omega)];simp [hi],λ i _=>World.ownsRow.frozenAt h' i⟩
def j70 (n:Nat) (k:Int):Prop:=0<=k/\k<(n:Int)
def zq1 (n i:Nat) (x:In):Prop:=
 (x.k=2/\j70 n x.a/\j70 n x.b)\/(x.k=3/\j70 n x.a)\/((x.k=1\/x.k=4\/x.k=5)/\i+1<n)\/x.k=6
def YU3 (l:List In):Prop:=∀ i x,l[i]? =some x->zq1 l.length i x
open Classical in
noncomputable def Qc7 (l:List In):Int:=if 400<l.length then 2 else if l.length=0 then 1 else if YU3 l then 0 else 1
def put (F:Nat->Nat) (t v:Nat):Nat->Nat:=λ j=>if j=t then v else F j
def YI6 (q:Re):List In:=Zv6 q 0++ [⟨6,0,0,⟨0,0,0,0⟩⟩]
def InB (lo hi:Nat) (x:In):Prop:=(x.k=2/\(lo:Int)<=x.a/\x.a<=(hi:Int)/\(lo:Int)<=x.b/\x.b<=(hi:Int))\/(x.k=3/\(lo:Int)<=x.a/\x.a<=(hi:Int))\/x.k=1\/x.k=4\/x.k=5
theorem InB.mono {lo hi lo' hi':Nat} {x:In} (h:InB lo hi x) (h1:lo'<=lo) (h2:hi<=hi'):InB lo' hi' x:=by
 unfold InB at*;omega
theorem qi4:∀ (q:Re) (n:Nat) (x:In),x∈Zv6 q n->InB n (n+(Zv6 q n).length) x
 | .none,n,x,h=>by simp only [Zv6,List.mem_singleton] at h;subst h;exact .inr (.inr (.inl rfl))
 | .empty,n,x,h=>by simp [Zv6] at h
 | .byte z,n,x,h=>by simp only [Zv6,List.mem_singleton] at h;subst h;exact .inr (.inr (.inl rfl))
 | .beg,n,x,h=>by simp only [Zv6,List.mem_singleton] at h;subst h;exact .inr (.inr (.inr (.inl rfl)))
 | .fin,n,x,h=>by simp only [Zv6,List.mem_singleton] at h;subst h;exact .inr (.inr (.inr (.inr rfl)))
 | .cat a b,n,x,h=>by
  have e:(Zv6 (.cat a b) n).length=(Zv6 a n).length+(Zv6 b (n+(Zv6 a n).length)).length:=by rw [Zv6,List.length_append]
  rw [e];simp only [Zv6,List.mem_append] at h;rcases h with h|h
  . exact(qi4 a _ x h).mono (Nat.le_refl _) (by omega)
  . exact(qi4 b _ x h).mono (by omega) (by omega)
 | .alt a b,n,x,h=>by
  have e:(Zv6 (.alt a b) n).length=2+(Zv6 a (n+1)).length+(Zv6 b (n+2+(Zv6 a (n+1)).length)).length:=by
   rw [Zv6,List.length_cons,List.length_append,List.length_cons];omega
  rw [e];simp only [Zv6,List.mem_append,List.mem_cons] at h;rcases h with h|h|h|h
  . subst h;unfold InB;dsimp only;omega
  . exact(qi4 a _ x h).mono (by omega) (by omega)
  . subst h;unfold InB;dsimp only;omega
  . exact(qi4 b _ x h).mono (by omega) (by omega)
 | .star a,n,x,h=>by
  have e:(Zv6 (.star a) n).length=2+(Zv6 a (n+1)).length:=by
   rw [Zv6,List.length_cons,List.length_append,List.length_cons,List.length_nil];omega
  rw [e];simp only [Zv6,List.mem_append,List.mem_cons,List.not_mem_nil,or_false] at h;rcases h with h|h|h
  . subst h;unfold InB;dsimp only;omega
  . exact(qi4 a _ x h).mono (by omega) (by omega)
  . subst h;unfold InB;dsimp only;omega
theorem yS1 (q:Re) (hz:q.size<=80):Qc7 (YI6 q)=0:=by
 have h1:=k29 q 0;have hl:(YI6 q).length=(Zv6 q 0).length+1:=by unfold YI6;rw [List.length_append,List.length_singleton]
 unfold Qc7;rw [if_neg (by omega),if_neg (by omega),if_pos];intro i x hx;have hi:=(List.getElem?_eq_some_iff.1 hx).1;by_cases hc:i<(Zv6 q 0).length
 . unfold YI6 at hx;rw [List.getElem?_append_left hc,List.getElem?_eq_getElem hc] at hx;cases hx;have:=qi4 q 0 _ (List.getElem_mem hc);unfold InB at this;unfold zq1 j70;rw [hl];omega
 . have he:i=(Zv6 q 0).length:=(by omega);subst he;unfold YI6 at hx;rw [List.getElem?_append_right (Nat.le_refl _),Nat.sub_self] at hx;cases hx;exact .inr (.inr (.inr rfl))
structure InR (w:World) (B:Nat) (A:Option Addr) (cap:Nat) (l:List In):Prop where
 rd:Reads w B 7 A l.length (ZW1 l)
 hB:B<=w.heap.size
 hc:l.length<=cap
 ok:∀ x,x∈l->x.s.ok
section
variable {w w':World} {B:Nat} {A:Option Addr} {cap:Nat} {l:List In}
theorem InR.below (h:InR w B A cap l) (hb:Below B w w'):InR w' B A cap l:=⟨h.rd.below hb,Nat.le_trans h.hB hb.size,h.hc,h.ok⟩
theorem InR.kept (h:InR w B A cap l) (hb:Below w.heap.size w w'):InR w' B A cap l:=h.below (hb.mono h.hB)
theorem InR.drew (h:InR w B A cap l):InR w.drew B A cap l:=⟨h.rd.drew,h.hB,h.hc,h.ok⟩
theorem InR.drewN (h:InR w B A cap l) (n:Nat):InR (w.drewN n) B A cap l:=⟨h.rd.drewN n,h.hB,h.hc,h.ok⟩
theorem InR.at_ (h:InR w B A cap l) {k:Nat} {x:In} (hx:l[k]? =some x):∃ ad,A=some ad/\ad.block<B/\w.cell? (ad.add (k*7))=some (.int .i64 x.k)/\w.cell? ⟨(ad.add (k*7)).block,(ad.add (k*7)).off+1,none⟩=some (.int .i64 x.a)/\w.cell? ⟨(ad.add (k*7)).block,(ad.add (k*7)).off+2,none⟩=some (.int .i64 x.b)/\
 w.cell? ⟨(ad.add (k*7)).block,(ad.add (k*7)).off+3,none⟩=some (.int .u64 (x.s.a:Int))/\w.cell? ⟨(ad.add (k*7)).block,(ad.add (k*7)).off+4,none⟩=some (.int .u64 (x.s.b:Int))/\w.cell? ⟨(ad.add (k*7)).block,(ad.add (k*7)).off+5,none⟩=some (.int .u64 (x.s.c:Int))/\w.cell? ⟨(ad.add (k*7)).block,(ad.add (k*7)).off+6,none⟩=some (.int .u64 (x.s.d:Int)):=by
 obtain⟨hk,_⟩:=List.getElem?_eq_some_iff.1 hx;obtain⟨ad,e,hb,hc⟩:=h.rd.2 (by omega)
 have key:∀ j,j<7->w.cell? ((ad.add (k*7)).add j)=x.cs[j]? :=λ j hj=>by
  rw [jx6];have h1:=yq5 hx hj;rw [List.getElem?_eq_getElem (show j<x.cs.length by rw [In.cs_len];exact hj)] at h1⊢;exact hc _ _ h1
 have sp:∀ j,0<j->(ad.add (k*7)).add j=⟨(ad.add (k*7)).block,(ad.add (k*7)).off+j,none⟩:=λ j hj=>by
  generalize ad.add (k*7)=p;unfold Addr.add;rw [if_neg (by omega)]
 refine⟨ad,e,hb,?_,?_,?_,?_,?_,?_,?_⟩
 . have:=key 0 (by omega);rw [jx6] at this;exact this
 all_goals rw [<-sp _ (by omega)];exact key _ (by omega)
end
set_option maxHeartbeats 1000000 in
theorem YK6 (k n:Int) (g:Nat) (w:World) (h:w.cell? ⟨g,0,none⟩=some (.int .i64 n)):
 Calls Tryz.prog 136 #[.int .i64 k,.pointer (some ⟨g,0,none⟩)] w λ e w'=>e= .returned (.bool (decide (0<=k/\k<n)))/\Below w.heap.size w w':=by
 by_cases h1:0<=k
 . by_cases h2:k<n
   rotate_left
   all_goals
    go_enter Tryz.func136,Tryz.ntmps136
    go_wp2
    go_ret;exact⟨Kh9 (by simp [h1,h2]),Below.refl _ _⟩
 . go_enter Tryz.func136,Tryz.ntmps136
   go_wp2
   go_ret;exact⟨Kh9 (by rw [decide_eq_false (show ¬0<=k by omega),Bool.false_and]),Below.refl _ _⟩
theorem KI0 {k n:Int} {b:Bool} (hb:decide (0<=k/\k<n)=b) {g:Nat} {w:World} (h:w.cell? ⟨g,0,none⟩=some (.int .i64 n)):
 Calls Tryz.prog 136 #[.int .i64 k,.pointer (some ⟨g,0,none⟩)] w λ e w'=>e= .returned (.bool b)/\Below w.heap.size w w':=by
 subst hb;exact YK6 k n g w h
theorem Z02 {l:List In} (h1:¬400<l.length) (h2:¬l.length=0) (h:YU3 l):Qc7 l=0:=by unfold Qc7;rw [if_neg h1,if_neg h2,if_pos h]
theorem QN1 {l:List In} (h1:¬400<l.length) {i:Nat} {x:In} (hx:l[i]? =some x) (h:¬zq1 l.length i x):Qc7 l=1:=by
 unfold Qc7;rw [if_neg h1];by_cases h2:l.length=0
 . rw [if_pos h2]
 . rw [if_neg h2,if_neg λ k=>h (k i x hx)]
section
variable (l:List In) (A:Option Addr) (cap B:Nat) (w:World)
set_option maxHeartbeats 4000000 in
theorem ko0 (h:InR w B A cap l):
 Calls Tryz.prog 104 #[.slice A l.length cap] w λ e w'=>e= .returned (.int .i64 (Qc7 l))/\Below w.heap.size w w':=by
 have hB1:Below w.heap.size w (w.alloc (.cells #[.int .i64 (l.length:Int)] 3)):=(Below.refl _ _).alloc (Nat.le_refl _) _;have HB1:=qh hB1;by_cases h1:400<l.length
 . have d1:(400:Int)<(l.length:Int):=(by omega);have eP:Qc7 l=2:=(by unfold Qc7;rw [if_pos h1]);rw [eP];clear h hB1 eP;go_enter Tryz.func104,Tryz.ntmps104;go_wp2_with fail;go_ret;exact⟨rfl,HB1.out⟩
 . have d1:¬(400:Int)<(l.length:Int):=(by omega);by_cases h2:l.length=0
   . have d2:((l.length:Int)==0)=true:=(by rw [beq_iff_eq];omega);have eP:Qc7 l=1:=(by unfold Qc7;rw [if_neg h1,if_pos h2]);rw [eP];clear h hB1 eP h2;go_enter Tryz.func104,Tryz.ntmps104;go_wp2_with fail;go_ret;exact⟨rfl,HB1.out⟩
   . have d2:((l.length:Int)==0)=false:=(by rw [beq_eq_false_iff_ne];omega);obtain⟨W,hW⟩:∃ W,W=w.alloc (.cells #[.int .i64 (l.length:Int)] 3):=⟨_,rfl⟩;rw [<-hW] at hB1 HB1;have hN:Blk W w.heap.size 3 #[.int .i64 (l.length:Int)]:=(by rw [hW];exact Blk.new _ _ _);have HR:=qh (h.kept hB1);have n0:=Blk.e0 hN;have HN:=qh hN;have HW:=qh hW;have hlt:=hN.lt;clear h hB1 hN hW;go_enter Tryz.func104,Tryz.ntmps104;go_wp2_with fail;rw [<-HW.out];go_wp2_with fail;go_loopw [17] (λ i wr=>∃ k:Nat,k<=l.length/\i= .int .i64 k/\Below W.heap.size W wr/\Hid (∀ i x,i<k->l[i]? =some x->zq1 l.length i x)) (λ i _=>l.length-(intOf i).toNat)
     case atStart=>exact⟨0,by omega,rfl,Below.refl _ _,λ i x h=>absurd h (by omega)⟩
     case round=>
      obtain⟨k,hk,rfl,hb,HI⟩:=hrel;have hz:=hb.size;have hlr:w.heap.size<wr.heap.size:=(by omega);by_cases hlk:k<l.length
      . obtain⟨x,hx⟩:∃ x,l[k]? =some x:=⟨l[k],List.getElem?_eq_getElem hlk⟩;obtain⟨ad,rfl,hbk,x0,x1,x2,x3,x4,x5,x6⟩:=(HR.out.kept hb).at_ hx;have i1:(k:Int)<(l.length:Int):=(by omega);have i3:IntKind.i64.wrap ((k:Int)+1)=(k:Int)+1:=IntWalk.i64_in _ (by omega);obtain⟨V,hV⟩:∃ V,V=wr.alloc (.cells #[.int .i64 x.k,.int .i64 x.a,.int .i64 x.b,.int .u64 (x.s.a:Int),.int .u64 (x.s.b:Int),.int .u64 (x.s.c:Int),.int .u64 (x.s.d:Int)] 162):=⟨_,rfl⟩;have hVb:Below wr.heap.size wr V:=(by rw [hV];exact(Below.refl _ _).alloc (Nat.le_refl _) _);have hVk:Blk V wr.heap.size 162 #[.int .i64 x.k,.int .i64 x.a,.int .i64 x.b,.int .u64 (x.s.a:Int),.int .u64 (x.s.b:Int),.int .u64 (x.s.c:Int),.int .u64 (x.s.d:Int)]:=(by rw [hV];exact Blk.new _ _ _);have hVl:=hVk.lt;have HBV:=qh (hb.trans (hVb.mono hz));have hNV:Blk V w.heap.size 3 #[.int .i64 (l.length:Int)]:=(HN.out.below hb hlt).below hVb hlr;have m00:=Blk.e0 (HN.out.below hb hlt);have HV:=qh hV;have HVK:=qh hVk;have HNV:=qh hNV;obtain⟨k0,k1,k2⟩:=Blk.c3 hVk;have m0:=Blk.e0 hNV;clear hb hVb hVk hNV hV;by_cases hRI:zq1 l.length k x
        . have HI2:Hid (∀ i x,i<k+1->l[i]? =some x->zq1 l.length i x):=λ i y hi hy=>by
           by_cases e:i=k
           . subst e;rw [hx] at hy;cases hy;exact hRI
           . exact HI.out i y (by omega) hy
          unfold zq1 j70 at hRI;rcases hRI with⟨c,ha,hb⟩|⟨c,ha⟩|⟨c,hl⟩|c
          . rw [c] at x0 k0 HVK HV;have hda:decide (0<=x.a/\x.a<(l.length:Int))=true:=decide_eq_true ha;have hdb:decide (0<=x.b/\x.b<(l.length:Int))=true:=decide_eq_true hb;clear ha hb c hx;go_wp2_with fail;rw [<-HV.out];go_wp2_with fail;refine(KI0 (b:=true) (k:=x.a) (n:=(l.length:Int)) (by exact hda) m0).mono ?_;rintro e w1 ⟨rfl,b1⟩;have HB2:=qh (HBV.out.trans (b1.mono HBV.out.size));have k2:=Blk.e2 (HVK.out.below b1 hVl);have m0:=Blk.e0 (HNV.out.below b1 (by omega));clear b1;go_wp2_with fail;refine(KI0 (b:=true) (k:=x.b) (n:=(l.length:Int)) (by exact hdb) m0).mono ?_;rintro e w2 ⟨rfl,b2⟩;have HB3:=qh (HB2.out.trans (b2.mono HB2.out.size));clear b2;go_wp2_with fail;go_roundw
            case rel=>exact⟨k+1,by omega,by go_num,HB3.out,HI2⟩
            case measure=>simp [intOf];omega
          . rw [c] at x0 k0 HVK HV;have hda:decide (0<=x.a/\x.a<(l.length:Int))=true:=decide_eq_true ha;clear ha c hx;go_wp2_with fail;rw [<-HV.out];go_wp2_with fail;refine(KI0 (b:=true) (k:=x.a) (n:=(l.length:Int)) (by exact hda) m0).mono ?_;rintro e w1 ⟨rfl,b1⟩;have HB2:=qh (HBV.out.trans (b1.mono HBV.out.size));have k2:=Blk.e2 (HVK.out.below b1 hVl);have m0:=Blk.e0 (HNV.out.below b1 (by omega));clear b1;go_wp2_with fail;go_roundw
            case rel=>exact⟨k+1,by omega,by go_num,HB2.out,HI2⟩
            case measure=>simp [intOf];omega
          . have i2:(k:Int)+1<(l.length:Int):=(by omega);rcases c with c|c|c
            rotate_left
            rotate_left
            all_goals
             rw [c] at x0 k0 HVK HV;clear c hx;go_wp2_with fail;rw [<-HV.out];go_wp2_with fail;go_roundw
             case rel=>exact⟨k+1,by omega,by go_num,HBV.out,HI2⟩
             case measure=>simp [intOf];omega
          . rw [c] at x0 k0 HVK HV;clear c hx;go_wp2_with fail;rw [<-HV.out];go_wp2_with fail;go_roundw
            case rel=>exact⟨k+1,by omega,by go_num,HBV.out,HI2⟩
            case measure=>simp [intOf];omega
        . have HEP:=qh (QN1 h1 hx hRI);unfold zq1 j70 at hRI;have hw:(x.k=2/\¬(0<=x.a/\x.a<(l.length:Int)))\/(x.k=2/\(0<=x.a/\x.a<(l.length:Int))/\¬(0<=x.b/\x.b<(l.length:Int)))\/(x.k=3/\¬(0<=x.a/\x.a<(l.length:Int)))\/((x.k=1\/x.k=4\/x.k=5)/\¬k+1<l.length)\/(x.k≠1/\x.k≠2/\x.k≠3/\x.k≠4/\x.k≠5/\x.k≠6):=(by omega);clear hRI;rcases hw with⟨c,ha⟩|⟨c,ha,hb⟩|⟨c,ha⟩|⟨c,hl⟩|⟨c1,c2,c3,c4,c5,c6⟩
          . rw [c] at x0 k0 HVK HV;have hda:decide (0<=x.a/\x.a<(l.length:Int))=false:=decide_eq_false ha;clear ha c hx;go_wp2_with fail;rw [<-HV.out];go_wp2_with fail;refine(KI0 (b:=false) (k:=x.a) (n:=(l.length:Int)) (by exact hda) m0).mono ?_;rintro e w1 ⟨rfl,b1⟩;have HB2:=qh (HBV.out.trans (b1.mono HBV.out.size));have k2:=Blk.e2 (HVK.out.below b1 hVl);have m0:=Blk.e0 (HNV.out.below b1 (by omega));clear b1;go_wp2_with fail;go_ret;exact⟨by show Ending.returned (.int .i64 1)=_;rw [HEP.out],HB1.out.trans (HB2.out.mono HB1.out.size)⟩
          . rw [c] at x0 k0 HVK HV;have hda:decide (0<=x.a/\x.a<(l.length:Int))=true:=decide_eq_true ha;have hdb:decide (0<=x.b/\x.b<(l.length:Int))=false:=decide_eq_false hb;clear ha hb c hx;go_wp2_with fail;rw [<-HV.out];go_wp2_with fail;refine(KI0 (b:=true) (k:=x.a) (n:=(l.length:Int)) (by exact hda) m0).mono ?_;rintro e w1 ⟨rfl,b1⟩;have HB2:=qh (HBV.out.trans (b1.mono HBV.out.size));have k2:=Blk.e2 (HVK.out.below b1 hVl);have m0:=Blk.e0 (HNV.out.below b1 (by omega));clear b1;go_wp2_with fail;refine(KI0 (b:=false) (k:=x.b) (n:=(l.length:Int)) (by exact hdb) m0).mono ?_;rintro e w2 ⟨rfl,b2⟩;have HB3:=qh (HB2.out.trans (b2.mono HB2.out.size));clear b2;go_wp2_with fail;go_ret;exact⟨by show Ending.returned (.int .i64 1)=_;rw [HEP.out],HB1.out.trans (HB3.out.mono HB1.out.size)⟩
          . rw [c] at x0 k0 HVK HV;have hda:decide (0<=x.a/\x.a<(l.length:Int))=false:=decide_eq_false ha;clear ha c hx;go_wp2_with fail;rw [<-HV.out];go_wp2_with fail;refine(KI0 (b:=false) (k:=x.a) (n:=(l.length:Int)) (by exact hda) m0).mono ?_;rintro e w1 ⟨rfl,b1⟩;have HB2:=qh (HBV.out.trans (b1.mono HBV.out.size));have k2:=Blk.e2 (HVK.out.below b1 hVl);have m0:=Blk.e0 (HNV.out.below b1 (by omega));clear b1;go_wp2_with fail;go_ret;exact⟨by show Ending.returned (.int .i64 1)=_;rw [HEP.out],HB1.out.trans (HB2.out.mono HB1.out.size)⟩
          . have i2:¬(k:Int)+1<(l.length:Int):=(by omega);rcases c with c|c|c
            rotate_left
            rotate_left
            all_goals
             rw [c] at x0 k0 HVK HV;clear c hx;go_wp2_with fail;rw [<-HV.out];go_wp2_with fail;go_ret;exact⟨by show Ending.returned (.int .i64 1)=_;rw [HEP.out],HB1.out.trans (HBV.out.mono HB1.out.size)⟩
          . have q1:(x.k==1)=false:=beq_eq_false_iff_ne.2 c1;have q2:(x.k==2)=false:=beq_eq_false_iff_ne.2 c2;have q3:(x.k==3)=false:=beq_eq_false_iff_ne.2 c3;have q4:(x.k==4)=false:=beq_eq_false_iff_ne.2 c4;have q5:(x.k==5)=false:=beq_eq_false_iff_ne.2 c5;have q6:(x.k==6)=false:=beq_eq_false_iff_ne.2 c6;clear hx;go_wp2_with fail;rw [<-HV.out];go_wp2_with fail;go_ret;exact⟨by show Ending.returned (.int .i64 1)=_;rw [HEP.out],HB1.out.trans (HBV.out.mono HB1.out.size)⟩
      . obtain rfl:k=l.length:=(by omega);have eP:Qc7 l=0:=Z02 h1 h2 λ i x hx=>HI.out i x (List.getElem?_eq_some_iff.1 hx).1 hx
        have HE:=qh eP;have HF:=qh ((HB1.out.trans (hb.mono HB1.out.size)));clear hb eP;go_wp2_with fail;go_ret;exact⟨by show Ending.returned (.int .i64 0)=_;rw [HE.out],HF.out⟩
end
end Go.Proofs.YtngepacmgabmaaaGreatDoor
