/- Walks: prog.code. -/
import Derived.Test.YtngepacmgabmaaaGreatDoorGah
import Derived.IntWalk
namespace Go.Proofs.YtngepacmgabmaaaGreatDoor
open Go.RowKit
set_option linter.unusedVariables false
set_option linter.unusedSimpArgs false
theorem Qf4 {w:World} {B:Nat}:∀ {q:Re} {cs:List Value},ReC w B q cs->∃ (a b c d e:Int) (A:Option Addr) (l cap:Nat),cs= [.int .i64 a,.int .u64 b,.int .u64 c,.int .u64 d,.int .u64 e,.slice A l cap]
 | .none,_,⟨A,cap,e⟩=>⟨_,_,_,_,_,_,_,_,e⟩
 | .empty,_,⟨A,cap,e⟩=>⟨_,_,_,_,_,_,_,_,e⟩
 | .byte s,_,⟨_,_,A,cap,e⟩=>⟨_,_,_,_,_,_,_,_,e⟩
 | .beg,_,⟨A,cap,e⟩=>⟨_,_,_,_,_,_,_,_,e⟩
 | .fin,_,⟨A,cap,e⟩=>⟨_,_,_,_,_,_,_,_,e⟩
 | .cat a b,_,⟨A,cap,ca,cb,e,_⟩=>⟨_,_,_,_,_,_,_,_,e⟩
 | .alt a b,_,⟨A,cap,ca,cb,e,_⟩=>⟨_,_,_,_,_,_,_,_,e⟩
 | .star a,_,⟨A,cap,ca,e,_⟩=>⟨_,_,_,_,_,_,_,_,e⟩
theorem xb8 {w w':World} {D i:Nat} {ad:Addr} {c0 c1 c2 c3 c4 c5:Value} (h:At6 w D (some ad) i [c0,c1,c2,c3,c4,c5]) (hk:Below D w w'):
 ad.block<D/\w'.cell? (ad.add (i*6))=some c0/\w'.cell? ((ad.add (i*6)).add 1)=some c1/\w'.cell? ((ad.add (i*6)).add 2)=some c2/\w'.cell? ((ad.add (i*6)).add 3)=some c3/\w'.cell? ((ad.add (i*6)).add 4)=some c4/\w'.cell? ((ad.add (i*6)).add 5)=some c5:=by
 obtain⟨_,e,hb,hc⟩:=h;injection e with e;subst e
 have e:∀ j u,[c0,c1,c2,c3,c4,c5][j]? =some u->w'.cell? ((ad.add (i*6)).add j)=some u:=λ j u hu=>by
  rw [jx6];exact(hk.cell (by rw [ZE9];exact hb)).trans (hc j u hu)
 exact⟨hb,e 0 _ rfl,e 1 _ rfl,e 2 _ rfl,e 3 _ rfl,e 4 _ rfl,e 5 _ rfl⟩
theorem xH2 {w w':World} {D:Nat} {ad:Addr} {c0 c1 c2 c3 c4 c5:Value} (h:At6 w D (some ad) 0 [c0,c1,c2,c3,c4,c5]) (hk:Below D w w'):
 w'.cell? ad=some c0/\w'.cell? ⟨ad.block,ad.off+1,none⟩=some c1/\w'.cell? ⟨ad.block,ad.off+2,none⟩=some c2/\w'.cell? ⟨ad.block,ad.off+3,none⟩=some c3/\w'.cell? ⟨ad.block,ad.off+4,none⟩=some c4/\w'.cell? ⟨ad.block,ad.off+5,none⟩=some c5:=by
 obtain⟨_,h0,h1,h2,h3,h4,h5⟩:=xb8 h hk;exact⟨h0,h1,h2,h3,h4,h5⟩
theorem kid1 {w w':World} {D:Nat} {ad:Addr} {c0 c1 c2 c3 c4 c5:Value} (h:At6 w D (some ad) 1 [c0,c1,c2,c3,c4,c5]) (hk:Below D w w'):
 w'.cell? ⟨ad.block,ad.off+6,none⟩=some c0/\w'.cell? ⟨ad.block,ad.off+6+1,none⟩=some c1/\w'.cell? ⟨ad.block,ad.off+6+2,none⟩=some c2/\w'.cell? ⟨ad.block,ad.off+6+3,none⟩=some c3/\w'.cell? ⟨ad.block,ad.off+6+4,none⟩=some c4/\w'.cell? ⟨ad.block,ad.off+6+5,none⟩=some c5:=by
 obtain⟨_,h0,h1,h2,h3,h4,h5⟩:=xb8 h hk;exact⟨h0,h1,h2,h3,h4,h5⟩
def Qr1 (q:Re) (l:List In) (v:Value) (B:Nat) (w:World) (e:Ending) (w':World):Prop:=∃ v',e= .returned v'/\OIn w' B v' (l++Zv6 q l.length)/\Grew w w' v v'
def JO6 (q:Re):Prop:=∀ (cs:List Value) (l:List In) (v:Value) (B D:Nat) (w:World),ReC w D q cs->D<=B->B<=w.heap.size->OIn w B v l->l.length+2*q.size<=1000->
 Calls Tryz.prog 135 #[v,.agg cs.toArray] w (Qr1 q l v B w)
structure Fit (w0:World) (v0:Value) (D B bx:Nat) (box:Array Value) (w:World) (v:Value) (l:List In):Prop where
 own:OIn w B v l
 grew:Grew w0 w v0 v
 below:Below D w0 w
 blk:Blk w bx 125 box
 off:v.ownBlock≠some bx
 big:B<=w.heap.size
section
variable {w0 w w':World} {v0 v v':Value} {D B bx:Nat} {box:Array Value} {l l':List In}
theorem Fit.start {w:World} {v:Value} {l:List In} {D B:Nat} (h:OIn w B v l) (hD:D<=B) (hB:B<=w.heap.size) (box:Array Value):Fit w v D B w.heap.size box (w.alloc (.cells box 125)) v l:=
 ⟨h.alloc _,Grew.of_below ((Below.refl _ _).alloc (Nat.le_refl _) _) _,(Below.refl _ _).alloc (by omega) _,Blk.new _ _ _,λ e=>absurd (World.ownsRow.lt h _ e).2 (by omega),by simp;omega⟩
theorem Fit.step (h:Fit w0 v0 D B bx box w v l) (hD:D<=B) (ho:OIn w' B v' l') (hg:Grew w w' v v'):Fit w0 v0 D B bx box w' v' l':=
 ⟨ho,h.grew.trans hg,h.below.trans ((hg.below h.big (Kw5 h.own)).mono hD),hg.blk h.blk h.off,hg.off h.blk.lt h.off,Nat.le_trans h.big hg.grown.size⟩
theorem Fit.drew (h:Fit w0 v0 D B bx box w v l):Fit w0 v0 D B bx box w.drew v l:=
 ⟨h.own.drew,h.grew.drew,h.below.drew,h.blk.drew,h.off,h.big⟩
theorem Fit.alloc (h:Fit w0 v0 D B bx box w v l) (hD:D<=B) (o:Obj):Fit w0 v0 D B bx box (w.alloc o) v l:=
 h.step hD (h.own.alloc o) (Grew.of_below ((Below.refl _ _).alloc (Nat.le_refl _) _) _)
end
section
variable (l:List In) (B D:Nat) (w:World) (A:Option Addr) (cap:Nat)
set_option maxRecDepth 100000 in
set_option maxHeartbeats 1000000 in
theorem yB8 (v:Value) (hB:B<=w.heap.size) (h:OIn w B v l) (hl:l.length<=1000):
 Calls Tryz.prog 135 #[v,.agg #[.int .i64 1,.int .u64 0,.int .u64 0,.int .u64 0,.int .u64 0,.slice A 0 cap]] w (Qr1 .none l v B w):=by
 obtain⟨A0,c0,rfl⟩:=h.form;have H:=qh h;clear h;go_enter Tryz.func135,Tryz.ntmps135;go_wp2_with (at_builtin;go_loud (refine Yq2 rfl (.tmp 14) (.tmp 18) rfl (H.out.alloc _) rfl ⟨1,0,0,⟨0,0,0,0⟩⟩ rfl (by simp) (by omega) (by simp;omega) ?_);intro v' w1 h1 h2;have H1:=qh h1;have H2:=qh h2;clear h1 h2);go_ret;exact⟨_,rfl,H1.out,((Grew.of_below ((Below.refl _ _).alloc (Nat.le_refl _) _) _).trans H2.out)⟩
set_option maxRecDepth 100000 in
set_option maxHeartbeats 1000000 in
theorem Jl2 (v:Value) (hB:B<=w.heap.size) (h:OIn w B v l) (hl:l.length<=1000):
 Calls Tryz.prog 135 #[v,.agg #[.int .i64 7,.int .u64 0,.int .u64 0,.int .u64 0,.int .u64 0,.slice A 0 cap]] w (Qr1 .beg l v B w):=by
 obtain⟨A0,c0,rfl⟩:=h.form;have H:=qh h;clear h;go_enter Tryz.func135,Tryz.ntmps135;go_wp2_with (at_builtin;go_loud (refine Yq2 rfl (.tmp 22) (.tmp 24) rfl (H.out.alloc _) rfl ⟨4,0,0,⟨0,0,0,0⟩⟩ rfl (by simp) (by omega) (by simp;omega) ?_);intro v' w1 h1 h2;have H1:=qh h1;have H2:=qh h2;clear h1 h2);go_ret;exact⟨_,rfl,H1.out,((Grew.of_below ((Below.refl _ _).alloc (Nat.le_refl _) _) _).trans H2.out)⟩
set_option maxRecDepth 100000 in
set_option maxHeartbeats 1000000 in
theorem xB0 (v:Value) (hB:B<=w.heap.size) (h:OIn w B v l) (hl:l.length<=1000):
 Calls Tryz.prog 135 #[v,.agg #[.int .i64 8,.int .u64 0,.int .u64 0,.int .u64 0,.int .u64 0,.slice A 0 cap]] w (Qr1 .fin l v B w):=by
 obtain⟨A0,c0,rfl⟩:=h.form;have H:=qh h;clear h;go_enter Tryz.func135,Tryz.ntmps135;go_wp2_with (at_builtin;go_loud (refine Yq2 rfl (.tmp 28) (.tmp 30) rfl (H.out.alloc _) rfl ⟨5,0,0,⟨0,0,0,0⟩⟩ rfl (by simp) (by omega) (by simp;omega) ?_);intro v' w1 h1 h2;have H1:=qh h1;have H2:=qh h2;clear h1 h2);go_ret;exact⟨_,rfl,H1.out,((Grew.of_below ((Below.refl _ _).alloc (Nat.le_refl _) _) _).trans H2.out)⟩
set_option maxRecDepth 100000 in
set_option maxHeartbeats 1000000 in
theorem KO1 (s:Q4) (v:Value) (hB:B<=w.heap.size) (h:OIn w B v l) (hl:l.length<=1000):
 Calls Tryz.prog 135 #[v,.agg #[.int .i64 3,.int .u64 (s.a:Int),.int .u64 (s.b:Int),.int .u64 (s.c:Int),.int .u64 (s.d:Int),.slice A 0 cap]] w (Qr1 (.byte s) l v B w):=by
 obtain⟨A0,c0,rfl⟩:=h.form;have H:=qh h;clear h;go_enter Tryz.func135,Tryz.ntmps135;go_wp2_with (at_builtin;go_loud (refine Yq2 rfl (.tmp 14) (.tmp 18) rfl (H.out.alloc _) rfl ⟨1,0,0,s⟩ rfl (by simp) (by omega) (by simp;omega) ?_);intro v' w1 h1 h2;have H1:=qh h1;have H2:=qh h2;clear h1 h2);go_ret;exact⟨_,rfl,H1.out,((Grew.of_below ((Below.refl _ _).alloc (Nat.le_refl _) _) _).trans H2.out)⟩
set_option maxRecDepth 100000 in
theorem jb0 (v:Value) (hB:B<=w.heap.size) (h:OIn w B v l):
 Calls Tryz.prog 135 #[v,.agg #[.int .i64 2,.int .u64 0,.int .u64 0,.int .u64 0,.int .u64 0,.slice A 0 cap]] w (Qr1 .empty l v B w):=by
 obtain⟨A0,c0,rfl⟩:=h.form;have H:=qh h;clear h;go_enter Tryz.func135,Tryz.ntmps135;go_wp2_with fail;go_ret;exact⟨.slice A0 l.length c0,rfl,by unfold Zv6;rw [List.append_nil];exact H.out.alloc _,Grew.of_below ((Below.refl _ _).alloc (Nat.le_refl _) _) _⟩
set_option maxRecDepth 100000 in
set_option maxHeartbeats 1000000 in
theorem js4 (a b:Re) (ca cb:List Value) (IHa:JO6 a) (IHb:JO6 b) (v:Value) (hD:D<=B) (hB:B<=w.heap.size) (h:OIn w B v l) (hl:l.length+2*(a.size+b.size+1)<=1000)
 (h1:At6 w D A 0 ca) (h2:At6 w D A 1 cb) (ha:ReC w D a ca) (hb:ReC w D b cb) (hcap:2<=cap) (hcap2:cap<=9223372036854775807):
 Calls Tryz.prog 135 #[v,.agg #[.int .i64 4,.int .u64 0,.int .u64 0,.int .u64 0,.int .u64 0,.slice A 2 cap]] w (Qr1 (.cat a b) l v B w):=by
 obtain⟨ad,rfl⟩:∃ ad,A=some ad:=⟨_,h1.choose_spec.1⟩;obtain⟨a0,a1,a2,a3,a4,A5,l5,cap5,rfl⟩:=Qf4 ha;obtain⟨b0,b1,b2,b3,b4,B5,m5,capb,rfl⟩:=Qf4 hb;have hla:=k29 a l.length;have hblD:ad.block<D:=(xb8 h1 (Below.refl _ _)).1;have hblw:ad.block<w.heap.size:=by omega
 obtain⟨W,hW⟩:∃ W,W=w.alloc (.cells #[.int .i64 4,.int .u64 0,.int .u64 0,.int .u64 0,.int .u64 0,.slice (some ad) 2 cap] 125):=⟨_,rfl⟩;have HF0:Hid (Fit w v D B w.heap.size #[.int .i64 4,.int .u64 0,.int .u64 0,.int .u64 0,.int .u64 0,.slice (some ad) 2 cap] W v l):=by rw [hW];exact Fit.start h hD hB _
 obtain⟨d0,d1,d2,d3,d4,d5⟩:=xH2 h1 (Below.refl D w);obtain⟨L1,hL1⟩:∃ L1,L1=l++Zv6 a l.length:=⟨_,rfl⟩;have hL1l:L1.length=l.length+(Zv6 a l.length).length:=by rw [hL1,List.length_append]
 have H2:=qh λ w' hk=>kid1 (w':=w') h2 hk
 have CA:=qh (IHa _ l v B D W (ha.below HF0.out.below) hD HF0.out.big HF0.out.own (by omega));have CB:=qh λ w2 v2 (hf:Fit w v D B w.heap.size #[.int .i64 4,.int .u64 0,.int .u64 0,.int .u64 0,.int .u64 0,.slice (some ad) 2 cap] w2 v2 L1)=>IHb _ L1 v2 B D w2 (hb.below hf.below) hD hf.big hf.own (by omega)
 obtain⟨A0,c0,rfl⟩:=h.form;have HW:=qh hW;have HL1:=qh hL1;clear hW ha hb h IHa IHb h1 h2 hL1 hL1l;go_enter Tryz.func135,Tryz.ntmps135;go_wp2_with fail;clear d0 d1 d2 d3 d4 d5;rw [<-HW.out];refine CA.out.mono ?_;rintro e w1 ⟨v1,rfl,ho1,hg1⟩;rw [<-HL1.out] at ho1;have HF1:=qh (HF0.out.step hD ho1 hg1);have CB1:=qh (CB.out w1 v1 HF1.out);have hbl1:ad.block<w1.heap.size:=Nat.lt_of_lt_of_le hblw HF1.out.grew.grown.size;have k5:=Blk.e5 HF1.out.blk;obtain⟨d0,d1,d2,d3,d4,d5⟩:=H2.out w1 HF1.out.below;obtain⟨A1,c1,rfl⟩:=ho1.form;clear ho1 hg1 CA CB;go_wp2_with fail;refine CB1.out.mono ?_;rintro e w2 ⟨v2,rfl,ho2,hg2⟩;obtain⟨L2,hL2⟩:∃ L2,L2=L1++Zv6 b L1.length:=⟨_,rfl⟩;rw [<-hL2] at ho2;have HL2:=qh hL2;have HF2:=qh (HF1.out.step hD ho2 hg2);clear ho2 hg2 d0 d1 d2 d3 d4 d5 k5 hL2;obtain⟨A2,c2,rfl⟩:=HF2.out.own.form;go_wp2_with fail;go_ret;have hE:L2=l++Zv6 (.cat a b) l.length:=by rw [HL2.out,HL1.out,List.length_append,List.append_assoc];rfl
 refine⟨.slice A2 L2.length c2,rfl,?_,HF2.out.grew⟩;rw [<-hE];exact HF2.out.own
set_option maxRecDepth 100000 in
set_option maxHeartbeats 2000000 in
theorem J91 (a b:Re) (ca cb:List Value) (IHa:JO6 a) (IHb:JO6 b) (v:Value) (hD:D<=B) (hB:B<=w.heap.size) (h:OIn w B v l) (hl:l.length+2*(a.size+b.size+1)<=1000)
 (h1:At6 w D A 0 ca) (h2:At6 w D A 1 cb) (ha:ReC w D a ca) (hb:ReC w D b cb) (hcap:2<=cap) (hcap2:cap<=9223372036854775807):
 Calls Tryz.prog 135 #[v,.agg #[.int .i64 5,.int .u64 0,.int .u64 0,.int .u64 0,.int .u64 0,.slice A 2 cap]] w (Qr1 (.alt a b) l v B w):=by
 obtain⟨ad,rfl⟩:∃ ad,A=some ad:=⟨_,h1.choose_spec.1⟩;obtain⟨a0,a1,a2,a3,a4,A5,l5,cap5,rfl⟩:=Qf4 ha;obtain⟨b0,b1,b2,b3,b4,B5,m5,capb,rfl⟩:=Qf4 hb;have hla:=k29 a (l.length+1);have hblD:ad.block<D:=(xb8 h1 (Below.refl _ _)).1;have hblw:ad.block<w.heap.size:=by omega
 obtain⟨box,hbox⟩:∃ box:Array Value,box=#[.int .i64 5,.int .u64 0,.int .u64 0,.int .u64 0,.int .u64 0,.slice (some ad) 2 cap]:=⟨_,rfl⟩;obtain⟨W,hW⟩:∃ W,W=w.alloc (.cells #[.int .i64 5,.int .u64 0,.int .u64 0,.int .u64 0,.int .u64 0,.slice (some ad) 2 cap] 125):=⟨_,rfl⟩;have HF0:Hid (Fit w v D B w.heap.size box W v l):=by rw [hW,<-hbox];exact Fit.start h hD hB _
 have H1:=qh λ w' hk=>xH2 (w':=w') h1 hk
 have H2:=qh λ w' hk=>kid1 (w':=w') h2 hk
 have K5:Hid (∀ w' v' l',Fit w v D B w.heap.size box w' v' l'->w'.cell? ⟨w.heap.size,5,none⟩=some (.slice (some ad) 2 cap)):=λ w' v' l' hf=>by rw [hf.blk.cell 5,hbox];rfl
 have HS:Hid (∀ w' v' l',Fit w v D B w.heap.size box w' v' l'->w'.cell? ⟨w.heap.size,5,none⟩=some (.slice (some ad) 2 cap)/\w'.cell? ad=some (.int .i64 a0)/\w'.cell? ⟨ad.block,ad.off+1,none⟩=some (.int .u64 a1)/\w'.cell? ⟨ad.block,ad.off+2,none⟩=some (.int .u64 a2)/\w'.cell? ⟨ad.block,ad.off+3,none⟩=some (.int .u64 a3)/\w'.cell? ⟨ad.block,ad.off+4,none⟩=some (.int .u64 a4)/\w'.cell? ⟨ad.block,ad.off+5,none⟩=some (.slice A5 l5 cap5)):=
  λ w' v' l' hf=>⟨K5.out w' v' l' hf,H1.out w' hf.below⟩
 have CA:=qh λ w2 v2 (hf:Fit w v D B w.heap.size box w2 v2 (l++ [⟨2,(l.length:Int)+1,0,⟨0,0,0,0⟩⟩]))=>IHa _ (l++ [⟨2,(l.length:Int)+1,0,⟨0,0,0,0⟩⟩]) v2 B D w2 (ha.below hf.below) hD hf.big hf.own (by rw [List.length_append,List.length_singleton];omega)
 have CB:=qh λ L1 w2 v2 (hL:L1.length=l.length+2+(Zv6 a (l.length+1)).length) (hf:Fit w v D B w.heap.size box w2 v2 L1)=>IHb _ L1 v2 B D w2 (hb.below hf.below) hD hf.big hf.own (by omega)
 obtain⟨A0,c0,rfl⟩:=h.form;have HW:=qh hW;clear hW ha hb h IHa IHb h1 h2 hbox;go_enter Tryz.func135,Tryz.ntmps135;go_wp2_with fail;rw [<-HW.out];have hFd:=HF0.out.drew;have e1:IntKind.i64.wrap ((l.length:Int)+1)=(l.length:Int)+1:=IntWalk.i64_in _ (by omega);have hsz:B<=W.heap.size:=HF0.out.big
 go_region_held3 (λ w'=>w'.cell? ⟨w.heap.size,5,none⟩=some (.slice (some ad) 2 cap)/\w'.cell? ad=some (.int .i64 a0)/\w'.cell? ⟨ad.block,ad.off+1,none⟩=some (.int .u64 a1)/\w'.cell? ⟨ad.block,ad.off+2,none⟩=some (.int .u64 a2)/\w'.cell? ⟨ad.block,ad.off+3,none⟩=some (.int .u64 a3)/\w'.cell? ⟨ad.block,ad.off+4,none⟩=some (.int .u64 a4)/\w'.cell? ⟨ad.block,ad.off+5,none⟩=some (.slice A5 l5 cap5)) (first|exact HS.out _ _ _ (by assumption)|exact HS.out _ _ _ (Fit.alloc (by assumption) hD _))
  (first
   |(refine JG2 (w:=W.drew) rfl (.tmp 48) (.tmp 52) rfl hFd.own rfl ⟨2,(l.length:Int)+1,0,⟨0,0,0,0⟩⟩ rfl rfl (by omega) hsz ?_;intro v1 w1 ho1 hg1;have hF1:=hFd.step hD ho1 hg1)
   |(go_at_call 135;refine(CA.out _ _ (by assumption)).mono ?_;rintro e w2 ⟨v2,rfl,ho2,hg2⟩;have hF2:=hF1.step hD ho2 hg2))
 have hn2:(l++ [(⟨2,(l.length:Int)+1,0,⟨0,0,0,0⟩⟩:In)]).length=l.length+1:=by rw [List.length_append,List.length_singleton]
 rw [hn2,List.append_assoc] at ho2 hF2;obtain⟨M,hM⟩:∃ M,M=Zv6 a (l.length+1):=⟨_,rfl⟩;rw [<-hM] at ho2 hF2 hla;have HM:=qh hM;obtain⟨L2,hL2⟩:∃ L2,L2=l++([(⟨2,(l.length:Int)+1,0,⟨0,0,0,0⟩⟩:In)]++M):=⟨_,rfl⟩;rw [<-hL2] at ho2 hF2;have hL2l:L2.length=l.length+1+M.length:=by rw [hL2];simp only [List.length_append,List.length_singleton];omega
 have HL2l:=qh hL2l;have hL2a:L2.length<=l.length+1+M.length:=by omega
 have hL2b:l.length+1+M.length<=L2.length:=by omega
 clear hL2l;have HF2:=qh hF2;have HL2:=qh hL2;clear ho2 hg2 hF2 ho1 hg1 hF1 hFd hL2 CA hM;obtain⟨A2,c2,rfl⟩:=HF2.out.own.form;obtain⟨L3,hL3⟩:∃ L3,L3=L2++ [(⟨3,0,0,⟨0,0,0,0⟩⟩:In)]:=⟨_,rfl⟩;have hL3l:L3.length=L2.length+1:=by rw [hL3,List.length_append,List.length_singleton]
 have HL3l:=qh hL3l;have hL3a:L3.length<=L2.length+1:=by omega
 have hL3b:L2.length+1<=L3.length:=by omega
 clear hL3l;have hL3e:L3=l++(⟨2,(l.length:Int)+1,0,⟨0,0,0,0⟩⟩:In)::(M++ [⟨3,0,0,⟨0,0,0,0⟩⟩]):=by rw [hL3,HL2.out];simp only [List.append_assoc,List.singleton_append,List.cons_append,List.nil_append]
 have HL3:=qh hL3;have HL3e:=qh hL3e;clear hL3 hL3e;have hs2:B<=w2.heap.size:=HF2.out.big;have hM2:L2.length<=1000:=by omega
 go_wp2_with (at_builtin;go_loud (refine Yq2 rfl (.tmp 61) (.tmp 63) rfl HF2.out.own rfl ⟨3,0,0,⟨0,0,0,0⟩⟩ rfl rfl (by omega) hs2 ?_;intro v3 w3 ho3 hg3;rw [<-HL3.out] at ho3;have HF3:=qh (HF2.out.step hD ho3 hg3);clear ho3 hg3;obtain⟨g3,c3,rfl,hc3,hc4,hg5,hg6⟩:=HF3.out.own.formAt (by omega);have x3:w3.cell? ⟨g3,l.length*7+2,none⟩=some (.int .i64 0):=(OIn.at_ HF3.out.own rfl (k:=l.length) (j:=2) (i:=⟨2,(l.length:Int)+1,0,⟨0,0,0,0⟩⟩) (by rw [HL3e.out];simp) (by omega)).1;have y3:w3.frozen? ⟨g3,l.length*7+2,none⟩=false:=(OIn.at_ HF3.out.own rfl (k:=l.length) (j:=2) (i:=⟨2,(l.length:Int)+1,0,⟨0,0,0,0⟩⟩) (by rw [HL3e.out];simp) (by omega)).2;have k5:=K5.out _ _ _ HF3.out;obtain⟨d0,d1,d2,d3,d4,d5⟩:=H2.out w3 HF3.out.below;have hng:¬g3=w.heap.size:=λ e=>HF3.out.off (by rw [e];rfl);have hnb:ad.block<g3:=by omega))
 have hF4:Fit w (.slice A0 l.length c0) D B w.heap.size box (w3.setCell ⟨g3,l.length*7+2,none⟩ (.int .i64 (L3.length:Int))) (.slice (some ⟨g3,0,none⟩) L3.length c3) (l++(⟨2,(l.length:Int)+1,(L3.length:Int),⟨0,0,0,0⟩⟩:In)::(M++ [⟨3,0,0,⟨0,0,0,0⟩⟩])):=by
  have h0:=HF3.out.own;have hn:L3.length=(l++(⟨2,(l.length:Int)+1,0,⟨0,0,0,0⟩⟩:In)::(M++ [⟨3,0,0,⟨0,0,0,0⟩⟩])).length:=by rw [<-HL3e.out]
  obtain⟨n3,hn3⟩:∃ n3,n3=L3.length:=⟨_,rfl⟩;rw [<-hn3] at h0 hn⊢;rw [HL3e.out] at h0;obtain⟨q1,q2⟩:=OIn.store h0 hn 2 (.int .i64 (n3:Int)) (by omega) (i':=⟨2,(l.length:Int)+1,(n3:Int),⟨0,0,0,0⟩⟩) rfl;have hF3:=HF3.out;rw [<-hn3] at hF3;exact hF3.step hD q1 q2
 have HF4:=qh hF4;clear hF4 x3 y3 k5 d0 d1 d2 d3 d4 d5;obtain⟨w4,hw4⟩:∃ w4,w4=w3.setCell ⟨g3,l.length*7+2,none⟩ (.int .i64 (L3.length:Int)):=⟨_,rfl⟩;rw [<-hw4] at HF4⊢;obtain⟨K,hK⟩:∃ K,K=l++(⟨2,(l.length:Int)+1,(L3.length:Int),⟨0,0,0,0⟩⟩:In)::M:=⟨_,rfl⟩;obtain⟨L4,hL4⟩:∃ L4,L4=l++(⟨2,(l.length:Int)+1,(L3.length:Int),⟨0,0,0,0⟩⟩:In)::(M++ [⟨3,0,0,⟨0,0,0,0⟩⟩]):=⟨_,rfl⟩;rw [<-hL4] at HF4;have hKl:K.length=L2.length:=by rw [hK];simp only [List.length_append,List.length_cons];omega
 have hK4:L4=K++ [⟨3,0,0,⟨0,0,0,0⟩⟩]:=by rw [hL4,hK];simp only [List.append_assoc,List.cons_append]
 have hL4l:L4.length=l.length+2+(Zv6 a (l.length+1)).length:=by rw [hL4,<-HM.out];simp only [List.length_append,List.length_cons,List.length_nil];omega
 have HK:=qh hK;have HKl:=qh hKl;have HK4:=qh hK4;have HL4l:=qh hL4l;clear hw4 hL4 hKl hK4 hL4l hK;refine(CB.out L4 w4 _ HL4l.out HF4.out).mono ?_;rintro e w5 ⟨v5,rfl,ho5,hg5'⟩;obtain⟨N,hN⟩:∃ N,N=Zv6 b L4.length:=⟨_,rfl⟩;have hNl:N.length<=2*b.size:=by rw [hN];exact k29 _ _
 rw [<-hN] at ho5;obtain⟨L5,hL5⟩:∃ L5,L5=L4++N:=⟨_,rfl⟩;have hL5e:L5=K++(⟨3,0,0,⟨0,0,0,0⟩⟩:In)::N:=by rw [hL5,HK4.out,List.append_assoc];rfl
 have hL5l:L5.length=L2.length+1+N.length:=by rw [hL5e,List.length_append,List.length_cons,HKl.out];omega
 rw [<-hL5] at ho5;have HF5:=qh (HF4.out.step hD ho5 hg5');have HN:=qh hN;have HL5e:=qh hL5e;have HL5l:=qh hL5l;have hL5a:L5.length<=L2.length+1+N.length:=by omega
 have hL5b:L2.length+1+N.length<=L5.length:=by omega
 clear ho5 hg5' hN hL5 hL5e hL5l;obtain⟨g5,c5,rfl,hc5,hc6,hg7,hg8⟩:=HF5.out.own.formAt (by omega);have x5:w5.cell? ⟨g5,L2.length*7+1,none⟩=some (.int .i64 0):=by rw [<-HKl.out];exact(OIn.at_ HF5.out.own rfl (k:=K.length) (j:=1) (i:=⟨3,0,0,⟨0,0,0,0⟩⟩) (by rw [HL5e.out];simp) (by omega)).1
 have y5:w5.frozen? ⟨g5,L2.length*7+1,none⟩=false:=by rw [<-HKl.out];exact(OIn.at_ HF5.out.own rfl (k:=K.length) (j:=1) (i:=⟨3,0,0,⟨0,0,0,0⟩⟩) (by rw [HL5e.out];simp) (by omega)).2
 go_wp2_with fail;go_ret
 have hF6:Fit w (.slice A0 l.length c0) D B w.heap.size box (w5.setCell ⟨g5,L2.length*7+1,none⟩ (.int .i64 (L5.length:Int))) (.slice (some ⟨g5,0,none⟩) L5.length c5) (K++(⟨3,(L5.length:Int),0,⟨0,0,0,0⟩⟩:In)::N):=by
  have h0:=HF5.out.own;have hn:L5.length=(K++(⟨3,0,0,⟨0,0,0,0⟩⟩:In)::N).length:=by rw [<-HL5e.out]
  have hF5:=HF5.out;obtain⟨n5,hn5⟩:∃ n5,n5=L5.length:=⟨_,rfl⟩;rw [<-hn5] at h0 hn hF5⊢;rw [HL5e.out] at h0;rw [<-HKl.out];obtain⟨q1,q2⟩:=OIn.store h0 hn 1 (.int .i64 (n5:Int)) (by omega) (i':=⟨3,(n5:Int),0,⟨0,0,0,0⟩⟩) rfl;exact hF5.step hD q1 q2
 have hE:K++(⟨3,(L5.length:Int),0,⟨0,0,0,0⟩⟩:In)::N=l++Zv6 (.alt a b) l.length:=by
  have e1:(L3.length:Int)=(l.length:Int)+2+(M.length:Int):=by omega
  have e2:(L5.length:Int)=(l.length:Int)+2+(M.length:Int)+(N.length:Int):=by omega
  have e3:=HL4l.out;have e4:=HN.out;rw [e3] at e4;rw [HK.out,e1,e2];unfold Zv6;rw [<-HM.out] at e4⊢;rw [<-e4,List.append_assoc];rfl
 rw [hE] at hF6;exact⟨.slice (some ⟨g5,0,none⟩) L5.length c5,rfl,hF6.own,hF6.grew⟩
set_option maxRecDepth 100000 in
set_option maxHeartbeats 2000000 in
theorem qX9 (a:Re) (ca:List Value) (IHa:JO6 a) (v:Value) (hD:D<=B) (hB:B<=w.heap.size) (h:OIn w B v l) (hl:l.length+2*(a.size+1)<=1000)
 (h1:At6 w D A 0 ca) (ha:ReC w D a ca) (hcap:1<=cap) (hcap2:cap<=9223372036854775807):
 Calls Tryz.prog 135 #[v,.agg #[.int .i64 6,.int .u64 0,.int .u64 0,.int .u64 0,.int .u64 0,.slice A 1 cap]] w (Qr1 (.star a) l v B w):=by
 obtain⟨ad,rfl⟩:∃ ad,A=some ad:=⟨_,h1.choose_spec.1⟩;obtain⟨a0,a1,a2,a3,a4,A5,l5,cap5,rfl⟩:=Qf4 ha;have hla:=k29 a (l.length+1);have hblD:ad.block<D:=(xb8 h1 (Below.refl _ _)).1;have hblw:ad.block<w.heap.size:=by omega
 obtain⟨box,hbox⟩:∃ box:Array Value,box=#[.int .i64 6,.int .u64 0,.int .u64 0,.int .u64 0,.int .u64 0,.slice (some ad) 1 cap]:=⟨_,rfl⟩;obtain⟨W,hW⟩:∃ W,W=w.alloc (.cells #[.int .i64 6,.int .u64 0,.int .u64 0,.int .u64 0,.int .u64 0,.slice (some ad) 1 cap] 125):=⟨_,rfl⟩;have HF0:Hid (Fit w v D B w.heap.size box W v l):=by rw [hW,<-hbox];exact Fit.start h hD hB _
 have H1:=qh λ w' hk=>xH2 (w':=w') h1 hk
 have K5:Hid (∀ w' v' l',Fit w v D B w.heap.size box w' v' l'->w'.cell? ⟨w.heap.size,5,none⟩=some (.slice (some ad) 1 cap)):=λ w' v' l' hf=>by rw [hf.blk.cell 5,hbox];rfl
 have HS:Hid (∀ w' v' l',Fit w v D B w.heap.size box w' v' l'->w'.cell? ⟨w.heap.size,5,none⟩=some (.slice (some ad) 1 cap)/\w'.cell? ad=some (.int .i64 a0)/\w'.cell? ⟨ad.block,ad.off+1,none⟩=some (.int .u64 a1)/\w'.cell? ⟨ad.block,ad.off+2,none⟩=some (.int .u64 a2)/\w'.cell? ⟨ad.block,ad.off+3,none⟩=some (.int .u64 a3)/\w'.cell? ⟨ad.block,ad.off+4,none⟩=some (.int .u64 a4)/\w'.cell? ⟨ad.block,ad.off+5,none⟩=some (.slice A5 l5 cap5)):=
  λ w' v' l' hf=>⟨K5.out w' v' l' hf,H1.out w' hf.below⟩
 have CA:=qh λ w2 v2 (hf:Fit w v D B w.heap.size box w2 v2 (l++ [⟨2,(l.length:Int)+1,0,⟨0,0,0,0⟩⟩]))=>IHa _ (l++ [⟨2,(l.length:Int)+1,0,⟨0,0,0,0⟩⟩]) v2 B D w2 (ha.below hf.below) hD hf.big hf.own (by rw [List.length_append,List.length_singleton];omega)
 obtain⟨A0,c0,rfl⟩:=h.form;have HW:=qh hW;clear hW ha h IHa h1 hbox;go_enter Tryz.func135,Tryz.ntmps135;go_wp2_with fail;rw [<-HW.out];have hFd:=HF0.out.drew;have e1:IntKind.i64.wrap ((l.length:Int)+1)=(l.length:Int)+1:=IntWalk.i64_in _ (by omega);have hsz:B<=W.heap.size:=HF0.out.big
 go_region_held3 (λ w'=>w'.cell? ⟨w.heap.size,5,none⟩=some (.slice (some ad) 1 cap)/\w'.cell? ad=some (.int .i64 a0)/\w'.cell? ⟨ad.block,ad.off+1,none⟩=some (.int .u64 a1)/\w'.cell? ⟨ad.block,ad.off+2,none⟩=some (.int .u64 a2)/\w'.cell? ⟨ad.block,ad.off+3,none⟩=some (.int .u64 a3)/\w'.cell? ⟨ad.block,ad.off+4,none⟩=some (.int .u64 a4)/\w'.cell? ⟨ad.block,ad.off+5,none⟩=some (.slice A5 l5 cap5)) (first|exact HS.out _ _ _ (by assumption)|exact HS.out _ _ _ (Fit.alloc (by assumption) hD _))
  (first
   |(refine JG2 (w:=W.drew) rfl (.tmp 85) (.tmp 89) rfl hFd.own rfl ⟨2,(l.length:Int)+1,0,⟨0,0,0,0⟩⟩ rfl rfl (by omega) hsz ?_;intro v1 w1 ho1 hg1;have hF1:=hFd.step hD ho1 hg1)
   |(go_at_call 135;refine(CA.out _ _ (by assumption)).mono ?_;rintro e w2 ⟨v2,rfl,ho2,hg2⟩;have hF2:=hF1.step hD ho2 hg2))
 have hn2:(l++ [(⟨2,(l.length:Int)+1,0,⟨0,0,0,0⟩⟩:In)]).length=l.length+1:=by rw [List.length_append,List.length_singleton]
 rw [hn2,List.append_assoc] at ho2 hF2;obtain⟨M,hM⟩:∃ M,M=Zv6 a (l.length+1):=⟨_,rfl⟩;rw [<-hM] at ho2 hF2 hla;have HM:=qh hM;obtain⟨L2,hL2⟩:∃ L2,L2=l++([(⟨2,(l.length:Int)+1,0,⟨0,0,0,0⟩⟩:In)]++M):=⟨_,rfl⟩;rw [<-hL2] at ho2 hF2;have hL2l:L2.length=l.length+1+M.length:=by rw [hL2];simp only [List.length_append,List.length_singleton];omega
 have HL2l:=qh hL2l;have hL2a:L2.length<=l.length+1+M.length:=by omega
 have hL2b:l.length+1+M.length<=L2.length:=by omega
 clear hL2l;have HF2:=qh hF2;have HL2:=qh hL2;clear ho2 hg2 hF2 ho1 hg1 hF1 hFd hL2 CA hM;obtain⟨A2,c2,rfl⟩:=HF2.out.own.form;obtain⟨L3,hL3⟩:∃ L3,L3=L2++ [(⟨3,(l.length:Int),0,⟨0,0,0,0⟩⟩:In)]:=⟨_,rfl⟩;have hL3l:L3.length=L2.length+1:=by rw [hL3,List.length_append,List.length_singleton]
 have HL3l:=qh hL3l;have hL3a:L3.length<=L2.length+1:=by omega
 have hL3b:L2.length+1<=L3.length:=by omega
 clear hL3l;have hL3e:L3=l++(⟨2,(l.length:Int)+1,0,⟨0,0,0,0⟩⟩:In)::(M++ [⟨3,(l.length:Int),0,⟨0,0,0,0⟩⟩]):=by rw [hL3,HL2.out];simp only [List.append_assoc,List.singleton_append,List.cons_append,List.nil_append]
 have HL3:=qh hL3;have HL3e:=qh hL3e;clear hL3 hL3e;have hs2:B<=w2.heap.size:=HF2.out.big;have hM2:L2.length<=1000:=by omega
 go_wp2_with (at_builtin;go_loud (refine Yq2 rfl (.tmp 96) (.tmp 99) rfl HF2.out.own rfl ⟨3,(l.length:Int),0,⟨0,0,0,0⟩⟩ rfl rfl (by omega) hs2 ?_;intro v3 w3 ho3 hg3;rw [<-HL3.out] at ho3;have HF3:=qh (HF2.out.step hD ho3 hg3);clear ho3 hg3;obtain⟨g3,c3,rfl,hc3,hc4,hg5,hg6⟩:=HF3.out.own.formAt (by omega);have x3:w3.cell? ⟨g3,l.length*7+2,none⟩=some (.int .i64 0):=(OIn.at_ HF3.out.own rfl (k:=l.length) (j:=2) (i:=⟨2,(l.length:Int)+1,0,⟨0,0,0,0⟩⟩) (by rw [HL3e.out];simp) (by omega)).1;have y3:w3.frozen? ⟨g3,l.length*7+2,none⟩=false:=(OIn.at_ HF3.out.own rfl (k:=l.length) (j:=2) (i:=⟨2,(l.length:Int)+1,0,⟨0,0,0,0⟩⟩) (by rw [HL3e.out];simp) (by omega)).2;have hng:¬g3=w.heap.size:=λ e=>HF3.out.off (by rw [e];rfl);have hnb:ad.block<g3:=by omega));go_ret
 have hF4:Fit w (.slice A0 l.length c0) D B w.heap.size box (w3.setCell ⟨g3,l.length*7+2,none⟩ (.int .i64 (L3.length:Int))) (.slice (some ⟨g3,0,none⟩) L3.length c3) (l++(⟨2,(l.length:Int)+1,(L3.length:Int),⟨0,0,0,0⟩⟩:In)::(M++ [⟨3,(l.length:Int),0,⟨0,0,0,0⟩⟩])):=by
  have h0:=HF3.out.own;have hn:L3.length=(l++(⟨2,(l.length:Int)+1,0,⟨0,0,0,0⟩⟩:In)::(M++ [⟨3,(l.length:Int),0,⟨0,0,0,0⟩⟩])).length:=by rw [<-HL3e.out]
  obtain⟨n3,hn3⟩:∃ n3,n3=L3.length:=⟨_,rfl⟩;rw [<-hn3] at h0 hn⊢;rw [HL3e.out] at h0;obtain⟨q1,q2⟩:=OIn.store h0 hn 2 (.int .i64 (n3:Int)) (by omega) (i':=⟨2,(l.length:Int)+1,(n3:Int),⟨0,0,0,0⟩⟩) rfl;have hF3:=HF3.out;rw [<-hn3] at hF3;exact hF3.step hD q1 q2
 have hE:l++(⟨2,(l.length:Int)+1,(L3.length:Int),⟨0,0,0,0⟩⟩:In)::(M++ [⟨3,(l.length:Int),0,⟨0,0,0,0⟩⟩])=l++Zv6 (.star a) l.length:=by
  have e1:(L3.length:Int)=(l.length:Int)+2+(M.length:Int):=by omega
  rw [e1];unfold Zv6;rw [<-HM.out]
 rw [hE] at hF4;exact⟨.slice (some ⟨g3,0,none⟩) L3.length c3,rfl,hF4.own,hF4.grew⟩
end
theorem ZO9:∀ q:Re,JO6 q
 | .none=>by rintro cs l v B D w ⟨A,cap,rfl⟩ hD hB h hl;exact yB8 l B w A cap v hB h (by simp only [Re.size] at hl;omega)
 | .empty=>by rintro cs l v B D w ⟨A,cap,rfl⟩ hD hB h hl;exact jb0 l B w A cap v hB h
 | .byte s=>by rintro cs l v B D w ⟨hs,hz,A,cap,rfl⟩ hD hB h hl;exact KO1 l B w A cap s v hB h (by simp only [Re.size] at hl;omega)
 | .beg=>by rintro cs l v B D w ⟨A,cap,rfl⟩ hD hB h hl;exact Jl2 l B w A cap v hB h (by simp only [Re.size] at hl;omega)
 | .fin=>by rintro cs l v B D w ⟨A,cap,rfl⟩ hD hB h hl;exact xB0 l B w A cap v hB h (by simp only [Re.size] at hl;omega)
 | .cat a b=>by rintro cs l v B D w ⟨A,cap,ca,cb,rfl,h1,h2,h3,h4,h5,h6⟩ hD hB h hl;exact js4 l B D w A cap a b ca cb (ZO9 a) (ZO9 b) v hD hB h (by simp only [Re.size] at hl;omega) h3 h4 h5 h6 h1 h2
 | .alt a b=>by rintro cs l v B D w ⟨A,cap,ca,cb,rfl,h1,h2,h3,h4,h5,h6⟩ hD hB h hl;exact J91 l B D w A cap a b ca cb (ZO9 a) (ZO9 b) v hD hB h (by simp only [Re.size] at hl;omega) h3 h4 h5 h6 h1 h2
 | .star a=>by rintro cs l v B D w ⟨A,cap,ca,rfl,h1,h2,h3,h4⟩ hD hB h hl;exact qX9 l B D w A cap a ca (ZO9 a) v hD hB h (by simp only [Re.size] at hl;omega) h3 h4 h1 h2
end Go.Proofs.YtngepacmgabmaaaGreatDoor
