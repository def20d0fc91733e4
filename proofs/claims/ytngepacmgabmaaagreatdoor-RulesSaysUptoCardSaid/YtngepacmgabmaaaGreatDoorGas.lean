/- Walk: phrase.Make. (printed by gen_trm.p; Masks of addresses: nets.mask; plain law .. -/
import Derived.Test.YtngepacmgabmaaaGreatDoorGar
import Derived.Laws.BitsAllLaws
namespace Go.Proofs.YtngepacmgabmaaaGreatDoor
open Go.RowKit
set_option linter.unusedVariables false
set_option linter.unusedSimpArgs false
theorem Qc1 (N:Nat) (hN:N<=1000000) (w:World):(Instr.makeSlice 41 (.int .i64 (N:Int)) (.int .i64 (N:Int))).run Tryz.prog w= .ok (.slice (some ⟨w.heap.size,0,none⟩) N N) (w.alloc (.cells (madeCells #[.int .i64 0] N) 3)):=
 run_make_row' (P:=Tryz.prog) 41 3 (.int .i64 0) 8 Tryz.underlying41 QB6 rfl .i64 .i64 N (by omega) (by omega) w
theorem qO0 (w:World) (o:Obj):(w.alloc o).heap.size=w.heap.size+1:=Array.size_push _
theorem JH6 (n:Nat):madeCells #[.int .i64 0] n=(atV (List.replicate n 0)).toArray:=by
 apply Array.toList_inj.1;rw [toList_madeCells_one];unfold atV;rw [List.map_replicate];rfl
theorem Mk.start (vs:List ByteArray) (w:World):Mk w.heap.size (w.heap.size+1+1+1) (w.heap.size+1) (w.heap.size+1+1) (.slice (some ⟨w.heap.size,0,none⟩) 1 1) (nds (tx (wsL vs) 0)) 0 (kd (tx (wsL vs) 0)) (awL vs 0) ((((w.alloc (.cells #[.int .u8 0,.int .i64 0,.int .i64 0,.slice none 0 0] 165)).alloc (.map #[] 0)).alloc (.cells (madeCells #[.int .i64 0] vs.length) 3)).alloc (.cells #[.slice (some ⟨w.heap.size,0,none⟩) 1 1,.map (some (w.heap.size+1)),.slice (some ⟨w.heap.size+1+1,0,none⟩) vs.length vs.length] 188)):=by
 have z1:(w.alloc (.cells #[.int .u8 0,.int .i64 0,.int .i64 0,.slice none 0 0] 165)).heap.size=w.heap.size+1:=by rw [qO0]
 have z2:((w.alloc (.cells #[.int .u8 0,.int .i64 0,.int .i64 0,.slice none 0 0] 165)).alloc (.map #[] 0)).heap.size=w.heap.size+1+1:=by rw [qO0,qO0]
 have z3:(((w.alloc (.cells #[.int .u8 0,.int .i64 0,.int .i64 0,.slice none 0 0] 165)).alloc (.map #[] 0)).alloc (.cells (madeCells #[.int .i64 0] vs.length) 3)).heap.size=w.heap.size+1+1+1:=by rw [qO0,qO0,qO0]
 have al:(awL vs 0).length=vs.length:=xP8 vs 0;rw [kD6,Z03];refine⟨?_,?_,?_,?_,⟨by omega,by omega,by omega⟩,⟨?_,?_,?_⟩,⟨by omega,by omega,by omega⟩⟩
 . have h:=Blk.new (((w.alloc (.cells #[.int .u8 0,.int .i64 0,.int .i64 0,.slice none 0 0] 165)).alloc (.map #[] 0)).alloc (.cells (madeCells #[.int .i64 0] vs.length) 3)) 188 #[.slice (some ⟨w.heap.size,0,none⟩) 1 1,.map (some (w.heap.size+1)),.slice (some ⟨w.heap.size+1+1,0,none⟩) vs.length vs.length];rw [z3] at h;rw [al];exact h
 . have h0:(w.alloc (.cells #[.int .u8 0,.int .i64 0,.int .i64 0,.slice none 0 0] 165)).ownsRow w.heap.size 165 4 (.slice (some ⟨w.heap.size,0,none⟩) 1 1) [((0:Nat),(0:Nat),(0:Nat))].length (nfl [((0:Nat),(0:Nat),(0:Nat))]):=⟨rfl,.inr ⟨w.heap.size,1,#[.int .u8 0,.int .i64 0,.int .i64 0,.slice none 0 0],rfl,Nat.le_refl _,heap_alloc_new w _,Nat.le_refl _,by unfold maxLen;omega,rfl,rfl⟩⟩;exact((h0.alloc _).alloc _).alloc _
 . have h:=EdgeM.made (w.alloc (.cells #[.int .u8 0,.int .i64 0,.int .i64 0,.slice none 0 0] 165));rw [z1] at h;exact(h.alloc _).alloc _
 . have h:=Blk.new ((w.alloc (.cells #[.int .u8 0,.int .i64 0,.int .i64 0,.slice none 0 0] 165)).alloc (.map #[] 0)) 3 (madeCells #[.int .i64 0] vs.length);rw [z2] at h;rw [QQ9,<-JH6];exact h.alloc _
 . intro e;have e2:w.heap.size=w.heap.size+1+1+1:=Option.some.inj e;omega
 . intro e;have e2:w.heap.size=w.heap.size+1:=Option.some.inj e;omega
 . intro e;have e2:w.heap.size=w.heap.size+1+1:=Option.some.inj e;omega
def QG2 (vs:List ByteArray) (w:World) (e:Ending) (w':World):Prop:=Below w.heap.size w w'/\((yR7 vs≠0/\e= .returned (.tuple #[.slice none 0 0,.int .i64 (yR7 vs)]))\/(yR7 vs=0/\400<(tx (wsL vs) 40).length/\e= .returned (.tuple #[.slice none 0 0,.int .i64 2]))\/(yR7 vs=0/\(tx (wsL vs) 40).length<=400/\∃ g c,(tx (wsL vs) 40).length<=c/\e= .returned (.tuple #[.slice (some ⟨g,0,none⟩) (tx (wsL vs) 40).length c,.int .i64 0])/\TreeM w' w'.heap.size (some ⟨g,0,none⟩) (nds (tx (wsL vs) 40)) (enW vs)))
section
variable (vs:List ByteArray) (A:Option Addr) (cap B:Nat) (w:World)
set_option maxRecDepth 100000 in
set_option maxHeartbeats 8000000 in
theorem ZJ7 (hS:StW w B A cap vs):Calls Tryz.prog 105 #[.slice A vs.length cap] w (QG2 vs w):=by
 have HS:=qh hS;have hcap:=hS.hc;have CK:=qh (jW9 vs A cap B w hS);clear hS;by_cases h0:yR7 vs=0
 . have HR:=qh (JY5 h0);have H0:=qh h0;have hv30:=HR.out.few;have hvp:=HR.out.pos;have hmk:=Qc1 vs.length (by omega);have hmm:=@run_makeMap Tryz.prog;have HMS:=qh (Mk.start vs w);have HBS:Hid (Below w.heap.size w ((((w.alloc (.cells #[.int .u8 0,.int .i64 0,.int .i64 0,.slice none 0 0] 165)).alloc (.map #[] 0)).alloc (.cells (madeCells #[.int .i64 0] vs.length) 3)).alloc (.cells #[.slice (some ⟨w.heap.size,0,none⟩) 1 1,.map (some (w.heap.size+1)),.slice (some ⟨w.heap.size+1+1,0,none⟩) vs.length vs.length] 188))):=qh ((((Below.refl _ _).alloc (Nat.le_refl _) _).alloc (by rw [qO0];omega) _).alloc (by rw [qO0,qO0];omega) _|>.alloc (by rw [qO0,qO0,qO0];omega) _);obtain⟨R,hRe⟩:∃ R,R=QG2 vs w:=⟨_,rfl⟩;rw [<-hRe];have HRE:=qh hRe;clear h0 hRe;go_enter Tryz.func105,Tryz.ntmps105;go_wp2_with fail;refine CK.out.mono ?_;rintro e w1 ⟨rfl,rfl⟩;rw [H0.out];clear CK;go_wp2_with fail;obtain⟨W,hW⟩:∃ W,((((w1.alloc (.cells #[.int .u8 0,.int .i64 0,.int .i64 0,.slice none 0 0] 165)).alloc (.map #[] 0)).alloc (.cells (madeCells #[.int .i64 0] vs.length) 3)).alloc (.cells #[.slice (some ⟨w1.heap.size,0,none⟩) 1 1,.map (some (w1.heap.size+1)),.slice (some ⟨w1.heap.size+1+1,0,none⟩) vs.length vs.length] 188))=W:=⟨_,rfl⟩;rw [hW] at HMS HBS⊢;obtain⟨gm,hgm⟩:∃ gm,w1.heap.size+1+1+1=gm:=⟨_,rfl⟩;obtain⟨ga,hga⟩:∃ ga,w1.heap.size+1+1=ga:=⟨_,rfl⟩;obtain⟨gk,hgk⟩:∃ gk,w1.heap.size+1=gk:=⟨_,rfl⟩;rw [hgm,hga,hgk] at HMS;rw [hgm,hga,hgk];have hb0:B<=w1.heap.size:=HS.out.hB;clear hW hgm hga hgk hmk hmm;go_loopw [24] (λ u wr=>∃ (n:Nat) (nv:Value) (nK:Nat),u= .int .i64 (n:Int)/\n<=40/\nK+1=(tx (wsL vs) n).length/\(tx (wsL vs) n).length<=400/\Hid (Mk w1.heap.size gm gk ga nv (nds (tx (wsL vs) n)) nK (kd (tx (wsL vs) n)) (awL vs n) wr)/\Hid (Below w1.heap.size w1 wr)) (λ u _=>40-(intOf u).toNat)
   case atStart=>exact⟨0,_,0,rfl,by omega,rfl,by show 1<=400;omega,HMS,HBS⟩
   case round=>
    clear HMS HBS;obtain⟨n,nv,nK,rfl,hn,hnK,hT4,HM,HB⟩:=hrel;by_cases hlt:n<40
    . have hnw:IntKind.i64.wrap ((n:Int)+1)=(n:Int)+1:=IntWalk.i64_in _ (by omega);have CLV:=qh (X00 vs A cap B n wr w1.heap.size gm gk ga nK nv (HS.out.below (HB.out.mono hb0)) hv30 hlt hT4 hb0 HB.out.size hnK HM.out);clear HM hnK hT4;go_wp2_with fail;refine CLV.out.mono ?_;rintro e w2 ⟨hb2,hres⟩;have HB2:Hid (Below w1.heap.size w1 w2):=qh (HB.out.trans hb2);clear hb2 CLV HB;rcases hres with⟨hbig,rfl⟩|⟨hle,rfl,nv2,nK2,hnK2,hM2⟩
      . have HBIG:=qh (Nat.lt_of_lt_of_le hbig (QF5 (wsL vs) (show n+1<=40 by omega)));clear hbig;go_wp2_with fail;rw [HRE.out];exact⟨HB2.out,.inr (.inl ⟨H0.out,HBIG.out,rfl⟩)⟩
      . have HM2:=qh hM2;clear hM2;go_wp2_with fail;go_roundw
        case rel=>exact⟨n+1,nv2,nK2,by go_num,by omega,hnK2,hle,HM2,HB2⟩
        case measure=>simp [intOf];omega
    . obtain rfl:n=40:=(by omega);clear hlt hn;obtain⟨T,hT⟩:∃ T,T=tx (wsL vs) 40:=⟨_,rfl⟩;obtain⟨D,hD⟩:∃ D,D=nds (tx (wsL vs) 40):=⟨_,rfl⟩;obtain⟨aw,haw⟩:∃ aw,aw=awL vs 40:=⟨_,rfl⟩;have hDl:D.length=T.length:=by rw [hD,hT,k55]
      have HFL:Hid (∀ i,i<T.length->(D.getD i (0,0,0)).2.2<T.length/\(0<i->(D.getD i (0,0,0)).2.2<i)/\(i=0->(D.getD i (0,0,0)).2.2=0)):=qh λ i hi=>by
       rw [hT] at hi⊢;rw [hD];exact ZB4 hi
      have HEM:Hid (∀ i,i<T.length->(enW vs (D.getD i (0,0,0)).2.2++owP aw i vs.length).Nodup/\(enW vs i).Pairwise (· < ·)/\(∀ x,x∈enW vs (D.getD i (0,0,0)).2.2++owP aw i vs.length<->x∈enW vs i)):=qh λ i hi=>by
       rw [hT] at hi;rw [hD,haw];exact xc3 HR.out hi
      have hal:aw.length=vs.length:=(by rw [haw];exact xP8 vs 40);have HTE:=qh hT;have HDE:=qh hD;rw [<-hT] at hT4 hnK;rw [<-hD,<-haw] at HM;obtain⟨g,c,hnv,hNc,hEz⟩:=HM.out.ends (by rw [hDl];omega) (enW vs) (Zp1 HR.out);subst hnv;rw [hDl] at hNc hEz;obtain⟨N,hN⟩:∃ N,N=T.length:=⟨_,rfl⟩;rw [<-hN] at hNc hEz HFL HEM hT4 hDl;have HNE:=qh hN;have HDL:=qh hDl;have hnp:0<N:=(by rw [hN,<-hnK];omega);have m0:=Blk.e0 hEz.mb;have HE:=qh hEz;clear hT hD haw hEz HM hnK hN hDl;obtain⟨wm,rfl⟩:∃ wm:World,wm=wr:=⟨_,rfl⟩;go_wp2_with fail;clear m0;go_loopw [38] (λ u wr=>∃ (i H m:Nat) (EV:Nat->Value),u= .int .i64 (i:Int)/\i<=N/\i<=m/\0<m/\Hid (Ez w1.heap.size H gm gk g ga N c D aw m (enW vs) EV wr)/\Hid (Below w1.heap.size w1 wr)) (λ u _=>N-(intOf u).toNat)
      case atStart=>exact⟨0,_,1,_,rfl,by omega,by omega,by omega,HE,HB⟩
      case round=>
       clear HE HB;obtain⟨i,H,m,EV,rfl,hi,him,hm0,HE,HB⟩:=hrel;by_cases hlt:i<N
       . obtain⟨f,hf⟩:∃ f,f=(D.getD i (0,0,0)).2.2:=⟨_,rfl⟩;obtain⟨f1,f2,f3⟩:=HFL.out i hlt;obtain⟨e1,e2,e3⟩:=HEM.out i hlt;rw [<-hf] at f1 f2 f3 e1 e3
         have hfm:f<m:=by
          rcases Nat.eq_zero_or_pos i with h|h
          . rw [f3 h];exact hm0
          . have:=f2 h;omega
         have HSRT:Hid ((enW vs f++owP aw i vs.length).Nodup/\(enW vs i).Pairwise (· < ·)/\(∀ x,x∈enW vs f++owP aw i vs.length<->x∈enW vs i)):=qh ⟨e1,e2,e3⟩;clear e1 e2 e3 f2 f3;have j1:(i:Int)<(N:Int):=(by omega);have j0:(0:Int)<=(i:Int):=(by omega);have j3:(f:Int)<(N:Int):=(by omega);have j2:(0:Int)<=(f:Int):=(by omega);have hiw:IntKind.i64.wrap ((i:Int)+1)=(i:Int)+1:=IntWalk.i64_in _ (by omega);obtain⟨ad,had⟩:∃ ad:Addr,ad=⟨g,0,none⟩:=⟨_,rfl⟩;have HPE:Hid (∀ k j,0<j->(⟨(ad.add (k*4)).block,(ad.add (k*4)).off+j,none⟩:Addr)=⟨g,k*4+j,none⟩):=qh λ k j _=>by rw [had,addN]
         obtain⟨Hn,hHn⟩:∃ Hn,Hn=wr.heap.size:=⟨_,rfl⟩;have hHH:H<=Hn:=(by rw [hHn];exact HE.out.hi.2.2.2);have HE1:Hid (Ez w1.heap.size Hn gm gk g ga N c D aw i (enW vs) EV wr.drew):=qh (((HE.out.up hHH (by rw [hHn];exact Nat.le_refl _)).weak him).step ((Below.refl _ _).drew));obtain⟨o1,_⟩:=HE.out.en f hfm;have o1:OwI wr.drew w1.heap.size (EV f) (enW vs f):=o1.step (below_drewN (Below.refl _ _) 1);have hlf:=z85 vs f;have CC:=qh (zz1 o1 (by omega));have nf:=HE.out.node f1;have ni:=HE.out.node hlt;obtain⟨_,_,n2,n3,n4⟩:=ni;obtain⟨_,_,_,p3,_⟩:=nf;rw [<-HPE.out _ 2 (by omega),<-hf] at n2;rw [<-HPE.out _ 3 (by omega)] at p3;have m0:wr.cell? ⟨gm,0,none⟩=some (.slice (some ad) N c):=(by rw [had];exact HE.out.mb.cell 0);obtain⟨vf,hvf⟩:∃ vf,EV f=vf:=⟨_,rfl⟩;rw [hvf] at p3 CC;have HBd:Hid (Below w1.heap.size w1 wr.drew):=qh (below_drewN HB.out 1);have hHd:wr.drew.heap.size=Hn:=hHn.symm;have HAD:=qh had;have hNb:w1.heap.size<=Hn:=(by rw [hHn];exact HB.out.size);clear had hvf o1 n3 n4 hf hHn HE HB hfm;go_wp2_with fail
         go_region_law (first
          |(go_simp;go_at_call 139;(refine CC.out.mono ?_);rintro e w2 ⟨v2,rfl,ho2,hb2⟩;obtain⟨A2,c2,rfl⟩:=ho2.form;have he2:=HE1.out.step (by rw [hHd] at hb2;exact hb2);have q:=he2.node hlt;have q3:w2.cell? ⟨(ad.add (i*4)).block,(ad.add (i*4)).off+3,none⟩=some (EV i):=(congrArg w2.cell? (HPE.out i 3 (by omega))).trans q.2.2.2.1;have q4:w2.frozen? ⟨(ad.add (i*4)).block,(ad.add (i*4)).off+3,none⟩=false:=(congrArg w2.frozen? (HPE.out i 3 (by omega))).trans q.2.2.2.2))
         all_goals
          have HE3:Hid (Ez w1.heap.size Hn gm gk g ga N c D aw i (enW vs) (λ k=>if k=i then .slice A2 (enW vs f).length c2 else EV k) (w2.setCell ⟨(ad.add (i*4)).block,(ad.add (i*4)).off+3,none⟩ (.slice A2 (enW vs f).length c2))):=qh (by rw [HPE.out _ 3 (by omega)];exact he2.put (Nat.le_refl _) _);have ho3:OwI w2 Hn (.slice A2 (enW vs f).length c2) (enW vs f):=(by rw [hHd] at ho2;exact ho2);have hgn:g<Hn:=he2.hi.2.1
          have HO3:Hid (OwI (w2.setCell ⟨(ad.add (i*4)).block,(ad.add (i*4)).off+3,none⟩ (.slice A2 (enW vs f).length c2)) Hn (.slice A2 (enW vs f).length c2) (enW vs f)):=qh (by
           rw [HPE.out _ 3 (by omega)];exact ho3.set (λ e=>by have:=(World.ownsRow.lt ho3 _ e).1;dsimp only at this;omega) _)
          have HB3:Hid (Below w1.heap.size w1 (w2.setCell ⟨(ad.add (i*4)).block,(ad.add (i*4)).off+3,none⟩ (.slice A2 (enW vs f).length c2))):=qh (by
           rw [HPE.out _ 3 (by omega)];exact(HBd.out.trans (hb2.mono HBd.out.size)).setCell (p:=⟨g,i*4+3,none⟩) he2.lo.2.1 _)
          obtain⟨W3,hW3⟩:∃ W3,w2.setCell ⟨(ad.add (i*4)).block,(ad.add (i*4)).off+3,none⟩ (.slice A2 (enW vs f).length c2)=W3:=⟨_,rfl⟩;rw [hW3] at HE3 HO3 HB3⊢;have m2:=Blk.e2 HE3.out.mb;clear hW3 ho2 hb2 he2 q q3 q4 ho3 HE1 HBd CC m0 n2 p3 hHd;go_wp2_with fail;clear m2;go_loopw [67] (λ u wr=>∃ (k:Nat) (v:Value) (xs:List Nat) (EV:Nat->Value),u= .int .i64 (k:Int)/\k<=vs.length/\Hid (xs=enW vs f++owP aw i k)/\Hid (EV i=v)/\Hid (OwI wr Hn v xs)/\Hid (Ez w1.heap.size Hn gm gk g ga N c D aw i (enW vs) EV wr)/\Hid (Below w1.heap.size w1 wr)) (λ u _=>vs.length-(intOf u).toNat)
          case atStart=>exact⟨0,_,enW vs f,_,rfl,Nat.zero_le _,qh (by rw [Xh5,List.append_nil]),qh (if_pos rfl),HO3,HE3,HB3⟩
          case round=>
           clear HE3 HO3 HB3;obtain⟨k,v,xs,EW,rfl,hk,HX,HV,HO,HE,HB⟩:=hrel;have n3:wr.cell? ⟨(ad.add (i*4)).block,(ad.add (i*4)).off+3,none⟩=some v:=(by rw [HPE.out _ 3 (by omega),(HE.out.node hlt).2.2.2.1,HV.out]);have n4:wr.frozen? ⟨(ad.add (i*4)).block,(ad.add (i*4)).off+3,none⟩=false:=by rw [HPE.out _ 3 (by omega),(HE.out.node hlt).2.2.2.2]
           have hxl:xs.length<=60:=by
            have h1:=z61 aw i k;rw [HX.out,List.length_append];omega
           have hHs:Hn<=wr.heap.size:=HE.out.hi.2.2.2;by_cases hkl:k<vs.length
           . have l1:(k:Int)<(vs.length:Int):=(by omega);have l0:(0:Int)<=(k:Int):=(by omega);have hka:k<aw.length:=(by rw [hal];exact hkl);have hkw:IntKind.i64.wrap ((k:Int)+1)=(k:Int)+1:=IntWalk.i64_in _ (by omega);obtain⟨a0,a1⟩:=HE.out.atw hka;obtain⟨y,hy⟩:∃ y,y=aw[k]:=⟨_,rfl⟩;rw [<-hy] at a0 a1;have hyd:aw.getD k 0=y:=(by rw [gD 0 hka,hy]);clear hy hka;by_cases hadd:y=i/\0<i
             . have d1:((y:Int)==(i:Int))=true:=beq_iff_eq.2 (by omega);have d2:decide ((0:Int)<(i:Int))=true:=decide_eq_true (by omega);have d3:(0:Int)<(i:Int):=(by omega);have HX2:Hid (xs++ [k]=enW vs f++owP aw i (k+1)):=qh (by rw [qN4 (by omega) (by rw [hyd];exact hadd.1),HX.out,List.append_assoc]);clear hadd hyd;go_wp2_with (first|(at_builtin;refine K07 rfl (.tmp 83) (.tmp 85) rfl HO.out rfl k rfl (by omega) hHs ?_;intro A5 c5 w5 h5 b5;have he5:=HE.out.step b5;have q3:w5.cell? ⟨(ad.add (i*4)).block,(ad.add (i*4)).off+3,none⟩=some v:=(congrArg w5.cell? (HPE.out i 3 (by omega))).trans ((he5.node hlt).2.2.2.1.trans (congrArg some HV.out));have q4:w5.frozen? ⟨(ad.add (i*4)).block,(ad.add (i*4)).off+3,none⟩=false:=(congrArg w5.frozen? (HPE.out i 3 (by omega))).trans (he5.node hlt).2.2.2.2)|fail);have hgn:g<Hn:=he5.hi.2.1;have HE5:Hid (Ez w1.heap.size Hn gm gk g ga N c D aw i (enW vs) (λ q=>if q=i then .slice A5 (xs.length+1) c5 else EW q) (w5.setCell ⟨(ad.add (i*4)).block,(ad.add (i*4)).off+3,none⟩ (.slice A5 (xs.length+1) c5))):=qh (by rw [HPE.out _ 3 (by omega)];exact he5.put (Nat.le_refl _) _)
               have HO5:Hid (OwI (w5.setCell ⟨(ad.add (i*4)).block,(ad.add (i*4)).off+3,none⟩ (.slice A5 (xs.length+1) c5)) Hn (.slice A5 (xs.length+1) c5) (xs++ [k])):=qh (by
                rw [HPE.out _ 3 (by omega)];exact h5.set (λ e=>by have:=(World.ownsRow.lt h5 _ e).1;dsimp only at this;omega) _)
               have HB5:Hid (Below w1.heap.size w1 (w5.setCell ⟨(ad.add (i*4)).block,(ad.add (i*4)).off+3,none⟩ (.slice A5 (xs.length+1) c5))):=qh (by
                rw [HPE.out _ 3 (by omega)];exact(HB.out.trans (b5.mono hNb)).setCell (p:=⟨g,i*4+3,none⟩) he5.lo.2.1 _)
               clear h5 b5 he5 HX HO HE HB;go_wp2_with fail;go_roundw
               case rel=>exact⟨k+1,.slice A5 (xs.length+1) c5,xs++ [k],_,by go_num,by omega,HX2,qh (if_pos rfl),HO5,HE5,HB5⟩
               case measure=>simp [intOf];omega
             . have HX2:Hid (xs=enW vs f++owP aw i (k+1)):=qh (by rw [Qk5 (by rw [hyd];omega),HX.out]);clear HX hyd;by_cases hyi:y=i
               focus
                have d1:((y:Int)==(i:Int))=true:=beq_iff_eq.2 (by omega);have d2:decide ((0:Int)<(i:Int))=false:=decide_eq_false (by omega);have d3:¬(0:Int)<(i:Int):=by omega
               rotate_left
               focus
                have d1:((y:Int)==(i:Int))=false:=beq_eq_false_iff_ne.2 (by omega)
               all_goals
                clear hadd hyi;go_wp2_with fail;go_roundw
                case rel=>exact⟨k+1,v,xs,EW,by go_num,by omega,HX2,HV,HO,HE,HB⟩
                case measure=>simp [intOf];omega
           . obtain rfl:k=vs.length:=(by omega);have CS:=qh (YN2 HO.out (by omega) hHs (by rw [HX.out];exact HSRT.out.1) HSRT.out.2.1 (by rw [HX.out];exact HSRT.out.2.2));clear hkl hxl HX HSRT;go_wp2_with fail;refine CS.out.mono ?_;rintro e w4 ⟨rfl,ho4,hb4⟩;have hs4:Hn<=w4.heap.size:=Nat.le_trans hHs hb4.size;have HE4:Hid (Ez w1.heap.size w4.heap.size gm gk g ga N c D aw (i+1) (enW vs) EW w4):=qh ((HE.out.step hb4).next ho4 HV.out rfl hs4 rfl);have HB4:Hid (Below w1.heap.size w1 w4):=qh (HB.out.trans (hb4.mono hNb));clear ho4 hb4 CS n3 n4 HO HE HB;go_wp2_with fail;go_roundw
             case rel=>
              (repeat apply Exists.intro)
              refine⟨?_,rfl⟩;exact⟨i+1,_,i+1,EW,by go_num,by omega,by omega,by omega,HE4,HB4⟩
             case measure=>simp [intOf];omega
       . obtain rfl:i=N:=(by omega);have HT4:=qh hT4;have m0:=Blk.e0 HE.out.mb;have HTR:=qh (HE.out.tree HDL.out him);have HNC:=qh hNc;clear hlt hi hT4 hNc;go_wp2_with fail;rw [HRE.out];refine⟨HB.out,.inr (.inr ⟨H0.out,?_,g,c,?_,?_,?_⟩)⟩
         . rw [<-HTE.out,<-HNE.out];exact HT4.out
         . rw [<-HTE.out,<-HNE.out];exact HNC.out
         . rw [<-HTE.out,<-HNE.out];rfl
         . rw [<-HDE.out];exact HTR.out
 . have e0:(yR7 vs==0)=false:=beq_eq_false_iff_ne.2 h0;have e1:(yR7 vs !=0)=true:=bne_iff_ne.2 h0;have H0:=qh h0;obtain⟨R,hRe⟩:∃ R,R=QG2 vs w:=⟨_,rfl⟩;rw [<-hRe];have HRE:=qh hRe;obtain⟨C,hC⟩:∃ C,yR7 vs=C:=⟨_,rfl⟩;have HC:=qh hC;rw [hC] at CK e0 e1;clear h0 hRe hC;go_enter Tryz.func105,Tryz.ntmps105;go_wp2_with fail;refine CK.out.mono ?_;rintro e w1 ⟨rfl,rfl⟩;clear CK;go_wp2_with fail;rw [HRE.out];exact⟨Below.refl _ _,.inl ⟨H0.out,by rw [HC.out];rfl⟩⟩
end
def KQ0 (bits:Int):Nat:=(min (max bits 0) 32).toNat
theorem JM7 (bits:Int):KQ0 bits<=32:=by unfold KQ0;omega
def zJ2 (bits:Int):Nat:=4294967296-2^(32-KQ0 bits)
theorem kD0:∀ b:Fin 33,IntKind.u64.wrap (4294967295*2^((32:Int)-(b.val:Int)).toNat)%4294967296=((4294967296-2^(32-b.val):Nat):Int):=by decide+kernel
theorem zb2 {bits:Int} (h0:0<=bits) (h1:bits<=32):IntKind.u64.wrap (4294967295*2^(32-bits).toNat)%4294967296=(zJ2 bits:Int):=by
 obtain⟨b,rfl⟩:=Int.eq_ofNat_of_zero_le h0;have hm:KQ0 (b:Int)=b:=by unfold KQ0;omega
 have:=kD0 ⟨b,by omega⟩;unfold zJ2;rw [hm];exact this
theorem xk9 {bits:Int} (h:32<=bits):(zJ2 bits:Int)=4294967295:=by
 have hm:KQ0 bits=32:=by unfold KQ0;omega
 unfold zJ2;rw [hm];rfl
theorem kT8 {bits:Int} (h:bits<=0):(zJ2 bits:Int)=0:=by
 have hm:KQ0 bits=0:=by unfold KQ0;omega
 unfold zJ2;rw [hm];rfl
theorem k57 (bits:Int) (w:World):Calls Tryz.prog 170 #[.int .i64 bits] w λ e w'=>e= .returned (.int .u32 (zJ2 bits))/\w=w':=by
 have hw1:IntKind.u64.wrap 4294967295%4294967296=4294967295:=by decide+kernel
 have hw2:IntKind.u64.wrap 18446744069414584320%4294967296=0:=by decide+kernel
 have H1:=qh (@zb2 bits);have H2:=qh (@xk9 bits);have H3:=qh (@kT8 bits);have j1:0<=bits->bits<=32->IntKind.i64.wrap ((32:Int)-bits)=(32:Int)-bits:=λ _ _=>IntWalk.i64_in _ (by omega)
 by_cases c1:bits<0
 . have hx:max bits 0=0:=(by omega);go_enter Tryz.func170,Tryz.ntmps170;go_wp2_with fail;all_goals go_ret
   all_goals exact⟨q54 (by first|(rw [H3.out (by omega)];done)|(rw [H3.out (by omega)];exact hw2)),rfl⟩
 . by_cases c2:32<bits
   . have hx:max bits 0=bits:=(by omega);have hx2:min bits 32=32:=(by omega);go_enter Tryz.func170,Tryz.ntmps170;go_wp2_with fail;all_goals go_ret
     all_goals exact⟨q54 (by first|(rw [H2.out (by omega)];done)|(rw [H2.out (by omega)];exact hw1)),rfl⟩
   . have hx:max bits 0=bits:=(by omega);have hx2:min bits 32=bits:=(by omega);have j2:=j1 (by omega) (by omega);have i1:0<=bits:=(by omega);have i2:bits<=32:=(by omega);go_enter Tryz.func170,Tryz.ntmps170;go_wp2_with fail;all_goals go_ret
     all_goals exact⟨q54 (H1.out (by omega) (by omega)),rfl⟩
theorem Kb9 (a j:Nat):a%2^j=0<->∀ i,i<j->a.testBit i=false:=by
 constructor
 . intro h i hi;have:=Nat.testBit_mod_two_pow a j i;rw [h,Nat.zero_testBit] at this
   simpa [hi] using this.symm
 . intro h;refine Nat.eq_of_testBit_eq λ i=> ?_
   rw [Nat.testBit_mod_two_pow,Nat.zero_testBit];by_cases hi:i<j
   . rw [h i hi];simp
   . simp [hi]
theorem q72:∀ b:Fin 33,BitVec.ofNat 32 (4294967296-2^(32-b.val))= ~~~ BitVec.ofNat 32 (2^(32-b.val)-1):=by decide+kernel
theorem xY6 (bits:Int):BitVec.ofInt 32 (zJ2 bits:Int)= ~~~ BitVec.ofNat 32 (2^(32-KQ0 bits)-1):=by
 rw [BitVec.ofInt_natCast];exact q72 ⟨KQ0 bits,by have:=JM7 bits;omega⟩
theorem JX8 (a:Nat) (bits:Int) (ha:a<4294967296):Go.bits .andNot .u32 (a:Int) (zJ2 bits:Int)=((a%2^(32-KQ0 bits):Nat):Int):=by
 show IntKind.u32.wrap ((BitVec.ofInt 32 (a:Int)&&& ~~~ BitVec.ofInt 32 (zJ2 bits:Int)).toNat:Int)=_;have hk:2^(32-KQ0 bits)<=4294967296:=Nat.pow_le_pow_right (by decide) (show 32-KQ0 bits<=32 by omega)
 have h:(BitVec.ofInt 32 (a:Int)&&& ~~~ BitVec.ofInt 32 (zJ2 bits:Int)).toNat=a%2^(32-KQ0 bits):=by
  rw [xY6,BitVec.not_not,BitVec.toNat_and,BitVec.ofInt_natCast,BitVec.toNat_ofNat,BitVec.toNat_ofNat,Nat.mod_eq_of_lt (by omega),Nat.mod_eq_of_lt (a:=2^(32-KQ0 bits)-1) (by omega),Nat.and_two_pow_sub_one_eq_mod]
 rw [h];have hm:a%2^(32-KQ0 bits)<=a:=Nat.mod_le _ _;exact IntWalk.u32_in _ ⟨by omega,by omega⟩
theorem KA5 {a p:Nat} {x:Bool} (h:a.testBit p=x):((a:Int)/2^p).tmod 2=(x.toNat:Int):=by
 have h1:(a:Int)/2^p=((a/2^p:Nat):Int):=by rw [Int.natCast_ediv,Int.natCast_pow];rfl
 rw [h1,Int.tmod_eq_emod_of_nonneg (Int.natCast_nonneg _)];rw [Nat.testBit_eq_decide_div_mod_eq] at h;cases x with
 |true=>have:=of_decide_eq_true h;show _=(1:Int);omega
 |false=>have:=of_decide_eq_false h;show _=(0:Int);omega
end Go.Proofs.YtngepacmgabmaaaGreatDoor
