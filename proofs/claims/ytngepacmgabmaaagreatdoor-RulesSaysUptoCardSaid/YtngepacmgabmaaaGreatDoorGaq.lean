/- Walk: (*phrase.maker).level. (printed by gen_trj.py) -/
import Derived.Test.YtngepacmgabmaaaGreatDoorGap
import Derived.BigRegion
namespace Go.Proofs.YtngepacmgabmaaaGreatDoor
open Go.RowKit
set_option linter.unusedVariables false
set_option linter.unusedSimpArgs false
def wsL (vs:List ByteArray):List (List UInt8):=vs.map λ v=>v.data.toList
theorem Zh9 (vs:List ByteArray):(wsL vs).length=vs.length:=List.length_map _
theorem qH5 {vs:List ByteArray} {i:Nat} (hi:i<vs.length):(wsL vs)[i]'(by rw [Zh9];exact hi)=vs[i].data.toList:=List.getElem_map _
theorem qP8 {vs:List ByteArray} {i:Nat} (hi:i<vs.length):vs[i].data.toList∈wsL vs:=List.mem_map.2 ⟨_,List.getElem_mem hi,rfl⟩
theorem Xe6 {v:ByteArray} {n:Nat} (h:n<v.size):v.data.toList.getD n 0=v[n]:=by
 have h2:n<v.data.toList.length:=h;rw [gD _ h2];rfl
theorem kh5 {w w':World} {B sz n:Nat} {E:TypeId} {v:Value} {xs:List Value} (h:w.ownsRow B E sz v n xs) (hb:Below w.heap.size w w'):w'.ownsRow B E sz v n xs:=
 World.ownsRow.kept (row:=none) h ⟨hb.os,hb.tape,hb.output,hb.size,λ k hk _=>hb.block k hk⟩ (by
  rcases h.2 with⟨e,_⟩|⟨g,cap,cur,e,_⟩
  . rw [e];exact .inl rfl
  . rw [e];exact .inr (by simp [Value.ownBlock]))
theorem k88 {wr:World} {B c:Nat} {A:Option Addr} {l:List (Nat×Nat)} (h:wr.ownsRow B 210 2 (.slice A l.length c) l.length (edF l)) (hB:B<=wr.heap.size) (hb:∀ x∈l,x.1<1024/\x.2<256) (hl:l.length<=1000) (hn:l.Nodup):
 Calls Tryz.prog 165 #[.slice A l.length c,.func (.func 166) #[] #[]] wr λ e w'=>e= .returned (.tuple #[])/\
  ∃ l':List (Nat×Nat),(∀ x,x∈l'<->x∈l)/\l'.Pairwise ltE/\l'.length=l.length/\(∀ ad,A=some ad->B<=ad.block)/\Reads w' w'.heap.size 2 A l'.length (edF l')/\Below B wr w':=by
 by_cases h0:l.length=0
 . have hnil:l= []:=List.eq_nil_of_length_eq_zero h0;subst hnil;have hcon:=Go.Proofs.AnyF.slices_SortFunc_none Tryz.sortEd A c (.func (.func 166) #[] #[]) wr;change Calls Tryz.prog 165 _ _ _ at hcon;refine hcon.mono ?_;rintro e w' ⟨rfl,rfl⟩;refine⟨rfl,[],λ x=>Iff.rfl,List.Pairwise.nil,rfl,λ ad e=> ?_,⟨rfl,λ hp=>absurd hp (Nat.lt_irrefl _)⟩,Below.refl _ _⟩;rcases h.2 with⟨e1,_⟩|⟨g,cap,cur,e1,hb,_⟩
   . rw [e] at e1;injection e1 with e1;cases e1
   . rw [e] at e1;injection e1 with e1;injection e1 with e1;rw [e1];exact hb
 . rcases h.2 with⟨_,e0⟩|⟨g,cap,cur,e1,hbg,hg,_⟩
   . exact absurd e0 h0
   . injection e1 with e1 e2 e3;subst e1 e3;have hgl:g<wr.heap.size:=(Array.getElem?_eq_some_iff.1 hg).1;refine(kR6 wr g c l hb hl hn (λ j hj=> ?_) hgl).mono ?_
     . have h1:=World.ownsRow.cellAt h j hj;exact⟨h1,World.ownsRow.frozenAt h j⟩
     . rintro e w' ⟨rfl,l',h1,h2,h3,h4,h5⟩;refine⟨rfl,l',h1,h2,h3,λ ad e=>by injection e with e;rw [<-e];exact hbg,h4,(Below.refl _ _).grown h5 hB λ k e=>by injection e with e;omega⟩
structure Kp (b0 gm gk ga gX:Nat) (nv:Value) (D:List (Nat×Nat×Nat)) (nK:Nat) (F:Int->Int->Option Nat) (aw:List Nat) (x:Nat×Nat) (wr:World):Prop where
 kk:Mk b0 gm gk ga nv D nK F aw wr
 xb:Blk wr gX 210 #[.int .i64 (x.1:Int),.int .u8 (x.2:Int)]
theorem Kp.step {b0 gm gk ga gX nK:Nat} {nv:Value} {D:List (Nat×Nat×Nat)} {F:Int->Int->Option Nat} {aw:List Nat} {x:Nat×Nat} {wr wr':World} (h:Kp b0 gm gk ga gX nv D nK F aw x wr) (hb:Below wr.heap.size wr wr'):Kp b0 gm gk ga gX nv D nK F aw x wr':=⟨h.kk.step hb,Blk.below h.xb hb (Blk.lt h.xb)⟩
theorem Kp.alloc {b0 gm gk ga gX nK:Nat} {nv:Value} {D:List (Nat×Nat×Nat)} {F:Int->Int->Option Nat} {aw:List Nat} {x:Nat×Nat} {wr:World} (h:Kp b0 gm gk ga gX nv D nK F aw x wr) (o:Obj):Kp b0 gm gk ga gX nv D nK F aw x (wr.alloc o):=h.step ((Below.refl _ _).alloc (Nat.le_refl _) _)
def Ek (A:Option Addr) (l:List (Nat×Nat)) (gE:Nat) (wr:World):Prop:=∀ i (hi:i<l.length),gE<wr.heap.size/\∃ ad,A=some ad/\ad.block=gE/\wr.cell? (ad.add (i*2))=some (.int .i64 (l[i].1:Int))/\wr.cell? ⟨(ad.add (i*2)).block,(ad.add (i*2)).off+1,none⟩=some (.int .u8 (l[i].2:Int))
theorem Ek.grown {A:Option Addr} {l:List (Nat×Nat)} {gE:Nat} {wr wr':World} {row:Option Nat} (h:Ek A l gE wr) (hg:wr.grownBy wr' row) (hne:some gE≠row):Ek A l gE wr':=λ i hi=>by
 obtain⟨h1,ad,h2,h3,h4,h5⟩:=h i hi;have hb:∀ p:Addr,p.block=gE->wr'.cell? p=wr.cell? p:=λ p hp=>World.cell?_of_block (by rw [hp];exact hg.block gE h1 hne)
 exact⟨Nat.lt_of_lt_of_le h1 hg.size,ad,h2,h3,by rw [hb _ (by rw [ZE9];exact h3)];exact h4,by rw [hb _ (by show (ad.add (i*2)).block=gE;rw [ZE9];exact h3)];exact h5⟩
theorem Ek.below {A:Option Addr} {l:List (Nat×Nat)} {gE:Nat} {wr wr':World} (h:Ek A l gE wr) (hb:Below wr.heap.size wr wr'):Ek A l gE wr':=h.grown (row:=none) ⟨hb.os,hb.tape,hb.output,hb.size,λ k hk _=>hb.block k hk⟩ (by simp)
theorem Ek.setCell {A:Option Addr} {l:List (Nat×Nat)} {gE:Nat} {wr:World} (h:Ek A l gE wr) (p:Addr) (hp:p.block≠gE) (u:Value):Ek A l gE (wr.setCell p u):=h.grown (row:=some p.block) ⟨rfl,rfl,rfl,by simp [World.setCell],λ k hk hne=>Below.heap_setCell wr p u k (λ e=>hne (by rw [e]))⟩ (by intro e;injection e with e;exact hp e.symm)
section
variable (vs:List ByteArray) (A:Option Addr) (cap B n:Nat) (w:World) (b0 gm gk ga nK:Nat) (nv:Value)
def awL (vs:List ByteArray) (n:Nat):List Nat:=vs.map λ v=>ix (tx (wsL vs) n) (v.data.toList.take n)
theorem xP8 (vs:List ByteArray) (n:Nat):(awL vs n).length=vs.length:=List.length_map _
theorem Z60 {vs:List ByteArray} {n i:Nat} (hi:i<vs.length):(awL vs n)[i]'(by rw [xP8];exact hi)=ix (tx (wsL vs) n) (vs[i].data.toList.take n):=List.getElem_map _
theorem xW3 {l:List Nat} {i k a d:Nat} (h:i≠k):(l.set i a).getD k d=l.getD k d:=by
 rw [List.getD_eq_getElem?_getD,List.getD_eq_getElem?_getD,List.getElem?_set_ne h]
def LvRes (vs:List ByteArray) (n b0 gm gk ga:Nat) (w:World) (e:Ending) (w':World):Prop:=Below b0 w w'/\((400<(tx (wsL vs) (n+1)).length/\e= .returned (.bool false))\/((tx (wsL vs) (n+1)).length<=400/\e= .returned (.bool true)/\∃ nv' nK',nK'+1=(tx (wsL vs) (n+1)).length/\Mk b0 gm gk ga nv' (nds (tx (wsL vs) (n+1))) nK' (kd (tx (wsL vs) (n+1))) (awL vs (n+1)) w'))
set_option maxRecDepth 100000 in
set_option maxHeartbeats 8000000 in
theorem X00 (hS:StW w B A cap vs) (hv30:vs.length<=30) (hn40:n<40) (hT:(tx (wsL vs) n).length<=400) (hBb:B<=b0) (hbw:b0<=w.heap.size) (hnK:nK+1=(tx (wsL vs) n).length) (hM:Mk b0 gm gk ga nv (nds (tx (wsL vs) n)) nK (kd (tx (wsL vs) n)) (awL vs n) w):
 Calls Tryz.prog 138 #[.pointer (some ⟨gm,0,none⟩),.slice A vs.length cap,.int .i64 (n:Int)] w (LvRes vs n b0 gm gk ga w):=by
 obtain⟨T,hTe⟩:∃ T,T=tx (wsL vs) n:=⟨_,rfl⟩;have HTE:=qh hTe;rw [<-hTe] at hT hM hnK;have HS:=qh hS;have HM:=qh hM;have hcap:=hS.hc;obtain⟨aw,haw⟩:∃ aw,aw=awL vs n:=⟨_,rfl⟩;rw [<-haw] at HM;have hal:aw.length=vs.length:=by rw [haw,xP8]
 have HAW:Hid (∀ i (hi:i<vs.length),aw.getD i 0=ix T (vs[i].data.toList.take n)):=qh λ i hi=>by
  subst haw;rw [gD _ (by rw [xP8];exact hi),Z60 hi,HTE.out]
 have HAL:=qh hal;have HBB:Hid (B<=b0/\b0<=w.heap.size):=qh ⟨hBb,hbw⟩;have gmlt:gm<w.heap.size:=Blk.lt hM.mb;have gklt:gk<w.heap.size:=hM.em.lt;have galt:ga<w.heap.size:=Blk.lt hM.ba;clear hTe hS hM haw hal hBb;go_enter Tryz.func138,Tryz.ntmps138;go_wp2_with fail;go_loopw [7,17] (λ v u wr=>∃ (i:Nat) (A1:Option Addr) (c1:Nat) (l:List (Nat×Nat)),u= .int .i64 (i:Int)/\v= .slice A1 l.length c1/\i<=vs.length/\l.length<=i/\Hid (l=lE T n ((wsL vs).take i))/\Hid (wr.ownsRow w.heap.size 210 2 (.slice A1 l.length c1) l.length (edF l))/\Hid (Below w.heap.size w wr)) (λ _ u _=>vs.length-(intOf u).toNat)
 case atStart=>exact⟨0,none,0,[],rfl,rfl,Nat.zero_le _,Nat.le_refl _,qh rfl,qh ⟨rfl,.inl ⟨rfl,rfl⟩⟩,qh (Below.refl _ _)⟩
 case round=>
  obtain⟨i,A1,c1,l,rfl,rfl,hi,hli,HL,HO,HB⟩:=hrel;by_cases hlt:i<vs.length
  . have j1:(i:Int)<(vs.length:Int):=(by omega);have j0:(0:Int)<=(i:Int):=(by omega);obtain⟨ad,rfl,hab,hcl⟩:=(HS.out.below (HB.out.mono (Nat.le_trans HBB.out.1 HBB.out.2))).at_ hlt
    have HTK:Hid ((wsL vs).take (i+1)=(wsL vs).take i++ [vs[i].data.toList]):=qh (by
     rw [List.take_add_one,List.getElem?_eq_getElem (show i<(wsL vs).length by rw [Zh9];exact hlt),qH5 hlt];rfl)
    by_cases hn:n<vs[i].size
    . have d1:decide ((n:Int)<(vs[i].size:Int))=true:=decide_eq_true (by omega);have d2:(n:Int)<(vs[i].size:Int):=(by omega);have d3:(0:Int)<=(n:Int):=(by omega);have hia:i<aw.length:=(by rw [HAL.out];exact hlt);have hMr:=HM.out.step HB.out;obtain⟨a0,a1,a2,a3⟩:=hMr.atw hia;have m2:=Blk.e2 hMr.mb;have j2:(i:Int)<(aw.length:Int):=(by omega);obtain⟨x,hx⟩:∃ x:Nat×Nat,x=edW T n vs[i].data.toList:=⟨_,rfl⟩;have hx1:x.1=aw[i]:=(by rw [hx,<-gD 0 hia,HAW.out i hlt];rfl);have hx2:x.2=vs[i][n].toNat:=(by rw [hx];show (vs[i].data.toList.getD n 0).toNat=_;rw [Xe6 hn]);have HX:=qh hx;have HX1:=qh hx1
      have HLN:Hid (lE T n ((wsL vs).take (i+1))=X89 l x):=qh (by
       rw [HTK.out,KG6,if_pos (show n<vs[i].data.toList.length from hn),<-HX.out,<-HL.out])
      have hB1:w.heap.size<=wr.heap.size:=HB.out.size;have hbx:(vs[i][n].toNat:Int)=(x.2:Int):=(by rw [hx2]);have HBX:=qh hbx;have HX2:=qh hx2;clear hx hx1 hx2 hbx hMr;have hB0:Below wr.heap.size wr (wr.alloc (.cells #[.int .i64 0,.int .u8 0] 210)):=(Below.refl _ _).alloc (Nat.le_refl _) _;have hM0:=(HM.out.step HB.out).step hB0;have k0:=(hM0.atw hia).2.1;rw [<-HX1.out] at k0;have k2:(wr.alloc (.cells #[.int .i64 0,.int .u8 0] 210)).cell? ⟨gm,2,none⟩=some (.slice (some ⟨ga,0,none⟩) aw.length aw.length):=hM0.mb.cell 2;have hE0:=Blk.new wr 210 #[.int .i64 0,.int .u8 0];have z0:(wr.alloc (.cells #[.int .i64 0,.int .u8 0] 210)).cell? ⟨wr.heap.size,0,none⟩=some (.int .i64 0):=hE0.cell 0;have z1:(wr.alloc (.cells #[.int .i64 0,.int .u8 0] 210)).cell? ⟨wr.heap.size,1,none⟩=some (.int .u8 0):=hE0.cell 1;have fz0:(wr.alloc (.cells #[.int .i64 0,.int .u8 0] 210)).frozen? ⟨wr.heap.size,0,none⟩=false:=hE0.frozen 0;have fz1:(wr.alloc (.cells #[.int .i64 0,.int .u8 0] 210)).frozen? ⟨wr.heap.size,1,none⟩=false:=hE0.frozen 1;have HE0:=qh hE0;rw [<-HX1.out] at a1;clear hM0 hE0 a0 a2 a3;go_wp2_with fail;go_region
      all_goals
       try rw [HBX.out]
       have hBw:Below wr.heap.size wr ((wr.alloc (.cells #[.int .i64 (x.1:Int),.int .u8 (x.2:Int)] 210)).drew):=below_drewN ((Below.refl _ _).alloc (Nat.le_refl _) _) 1;have hE1:Blk ((wr.alloc (.cells #[.int .i64 (x.1:Int),.int .u8 (x.2:Int)] 210)).drew) wr.heap.size 210 #[.int .i64 (x.1:Int),.int .u8 (x.2:Int)]:=(Blk.new wr _ _).drew;obtain⟨W1,hW1⟩:∃ W1,((wr.alloc (.cells #[.int .i64 (x.1:Int),.int .u8 (x.2:Int)] 210)).drew)=W1:=⟨_,rfl⟩;rw [hW1] at hBw hE1⊢;obtain⟨gX,hgX⟩:∃ gX,wr.heap.size=gX:=⟨_,rfl⟩;rw [hgX] at hE1⊢;have HO1:=qh (kh5 HO.out hBw);have HBw:=qh (HB.out.trans (hBw.mono HB.out.size));obtain⟨x0,x1⟩:=Blk.c2 hE1;have HE1:=qh hE1;have CC:=qh (q33 l A1 c1 W1.heap.size W1 x (Reads.of_own HO1.out) (Nat.le_refl _) (by omega));clear hW1 hgX hBw hE1 z0 z1 fz0 fz1 k0 k2 a1 m2 hB0;go_wp2_with fail;refine CC.out.mono ?_;rintro e w2 ⟨rfl,hb2⟩;have HO2:=qh (kh5 HO1.out hb2);have HB2:=qh (HBw.out.trans (hb2.mono HBw.out.size));obtain⟨x0,x1⟩:=Blk.c2 (Blk.below HE1.out hb2 (Blk.lt HE1.out));clear hb2 CC;by_cases hmem:x∈l
       . rw [decide_eq_true hmem];have HLs:Hid (l=lE T n ((wsL vs).take (i+1))):=qh (by rw [HLN.out];unfold X89;rw [if_pos hmem]);clear hmem;go_wp2_with fail;go_roundw
         case rel=>exact⟨i+1,A1,c1,l,by go_num,rfl,by omega,by omega,HLs,HO2,HB2⟩
         case measure=>simp [intOf];omega
       . rw [decide_eq_false hmem];have HLs:Hid (l++ [x]=lE T n ((wsL vs).take (i+1))):=qh (by rw [HLN.out];unfold X89;rw [if_neg hmem]);have hsz:=HB2.out.size;clear hmem;go_wp2_with (first|(at_builtin;refine zd6 rfl (.tmp 41) (.tmp 43) rfl HO2.out rfl x rfl (by omega) hsz l.length rfl ?_;intro A3 c3 w3 h3 g3)|fail);have HB3:=qh (HB2.out.trans (g3.below HB2.out.size λ g e=>Kw5 HO2.out g e));have hl1:(l++ [x]).length=l.length+1:=(by rw [List.length_append];rfl);have HO3:Hid (w3.ownsRow w.heap.size 210 2 (.slice A3 (l++ [x]).length c3) (l++ [x]).length (edF (l++ [x]))):=qh (by rw [hl1];exact h3);clear h3 g3;rw [<-hl1];go_wp2_with fail;go_roundw
         case rel=>exact⟨i+1,A3,c3,l++ [x],by go_num,rfl,by omega,by rw [hl1];omega,HLs,HO3,HB3⟩
         case measure=>simp [intOf];omega
    . have d1:decide ((n:Int)<(vs[i].size:Int))=false:=decide_eq_false (by omega);have d2:¬(n:Int)<(vs[i].size:Int):=by omega
      have HLN:Hid (l=lE T n ((wsL vs).take (i+1))):=qh (by
       rw [HTK.out,KG6,if_neg (show ¬n<vs[i].data.toList.length from hn),<-HL.out])
      clear hn;go_wp2_with fail;go_roundw
      case rel=>exact⟨i+1,A1,c1,l,by go_num,rfl,by omega,by omega,HLN,HO,HB⟩
      case measure=>simp [intOf];omega
  . obtain rfl:i=vs.length:=(by omega);have hle:l=lE T n (wsL vs):=by rw [HL.out,List.take_of_length_le (by rw [Zh9];exact Nat.le_refl _)]
    have hbnd:∀ x∈l,x.1<1024/\x.2<256:=λ x hx=>by
     rw [hle,HTE.out] at hx;have:=Yi6.1 ((KH8 _ n x).1 hx);rw [<-HTE.out] at this;exact⟨by omega,this.2.2.1⟩
    have hnd:l.Nodup:=(by rw [hle];exact Zl9 _ _ _);have CS:=qh (k88 HO.out HB.out.size hbnd (by omega) hnd);have HLE:=qh hle;clear hle hbnd hnd HL hlt;go_wp2_with fail;refine CS.out.mono ?_;rintro e w2 ⟨rfl,l',hm,hs,hlen,hAb,hrd,hb2⟩;have hl':l'=eL (wsL vs) (tx (wsL vs) n) n:=zX0 (λ x=>by rw [hm x,HLE.out,HTE.out]) hs;have HBw:Hid (Below w.heap.size w w2):=qh (HB.out.trans hb2);obtain⟨gE,hgE⟩:∃ gE,gE=match A1 with|some ad=>ad.block|none=>w2.heap.size:=⟨_,rfl⟩
    have hgw:w.heap.size<=gE:=by
     rw [hgE];cases A1 with
     |none=>exact HBw.out.size
     |some ad=>exact hAb ad rfl
    have hEk:Ek A1 l' gE w2:=λ i hi=>by
     obtain⟨ad,rfl,h1,h2,h3⟩:=yn0 hrd hi;rw [hgE];exact⟨h1,ad,rfl,rfl,h2,h3⟩
    have HM2:=qh (HM.out.step HBw.out);have HE2:=qh hEk;have HL':=qh hl'
    have hnv:nv.ownBlock≠some gE:=λ e=>by
     have:=(World.ownsRow.lt HM.out.ow gE e).2;omega
    have HB2:Hid (Below b0 w w2):=qh (HBw.out.mono HBB.out.2);have hl30:l'.length<=30:=(by omega);have hlw:l.length=l'.length:=hlen.symm;rw [hlw];have htp0:(TP (wsL vs) n 0).length<=400/\nK+1=(TP (wsL vs) n 0).length:=(by rw [qb9,<-HTE.out];exact⟨hT,hnK⟩);have HM2':Hid (Mk b0 gm gk ga nv (nds (TP (wsL vs) n 0)) nK (kd (TP (wsL vs) n 0)) aw w2):=qh (by rw [qb9,<-HTE.out];exact HM2.out);clear hm hs hlen hAb hrd hb2 hgE hEk hl' CS HLE hlw HM2 HBw HO HB hli hi;go_wp2_with fail;go_loopw [50] (λ u wr=>∃ (j:Nat) (nv:Value) (nK:Nat),u= .int .i64 (j:Int)/\j<=l'.length/\nK+1=(TP (wsL vs) n j).length/\(TP (wsL vs) n j).length<=400/\nv.ownBlock≠some gE/\Hid (Mk b0 gm gk ga nv (nds (TP (wsL vs) n j)) nK (kd (TP (wsL vs) n j)) aw wr)/\Hid (Ek A1 l' gE wr)/\Hid (Below b0 w wr)) (λ u _=>l'.length-(intOf u).toNat)
    case atStart=>exact⟨0,nv,nK,rfl,Nat.zero_le _,htp0.2,htp0.1,hnv,HM2',HE2,HB2⟩
    case round=>
     clear HM HM2' HE2 HB2 hnv htp0;obtain⟨j,nv,nK,rfl,hj,hnK,hT4,hnv,HM,HE,HB⟩:=hrel;by_cases hlt:j<l'.length
     . obtain⟨hgl,ad,rfl,hadb,e0,e1⟩:=HE.out j hlt;have hje:j<(eL (wsL vs) (tx (wsL vs) n) n).length:=(by rw [<-HL'.out];exact hlt);have hgd:=Gd.TP (wsL vs) n j (Nat.le_of_lt hje);have hxe:(eL (wsL vs) (tx (wsL vs) n) n)[j]=l'[j]:=(by congr 1;exact HL'.out.symm);have hnext:=qY8 hje hgd;have hsucc:=XS0 hje;rw [hxe] at hnext hsucc;have HNX:=qh hnext;have HSU:=qh hsucc;have HGD:=qh hgd;have hTl:(TP (wsL vs) n j).length=T.length+j:=(by rw [qv5 _ _ _ (Nat.le_of_lt hje),HTE.out]);have hTall:(tx (wsL vs) (n+1)).length=T.length+l'.length:=(by rw [<-Q15,qv5 _ _ _ (Nat.le_refl _),HTE.out,HL'.out]);have hjw:IntKind.i64.wrap ((j:Int)+1)=(j:Int)+1:=IntWalk.i64_in _ (by omega);have j1:(j:Int)<(l'.length:Int):=(by omega);have j0:(0:Int)<=(j:Int):=(by omega);clear hgd hxe hnext hsucc hje;go_upto_block 3 with fail;go_cut [12] from 52 to 86 (λ _ wx=>∃ nv':Value,nv'.ownBlock≠some gE/\nK+2=(TP (wsL vs) n (j+1)).length/\(TP (wsL vs) n (j+1)).length<=400/\Hid (Mk b0 gm gk ga nv' (nds (TP (wsL vs) n (j+1))) (nK+1) (kd (TP (wsL vs) n (j+1))) aw wx)/\Hid (Ek (some ad) l' gE wx)/\Hid (Below b0 w wx))
       case first=>
        have hba:Below wr.heap.size wr (wr.alloc (.cells #[.int .i64 (l'[j].1:Int),.int .u8 (l'[j].2:Int)] 210)):=(Below.refl _ _).alloc (Nat.le_refl _) _;have hM1:=HM.out.step hba;have hE1:=HE.out.below hba;have hX1:Blk (wr.alloc (.cells #[.int .i64 (l'[j].1:Int),.int .u8 (l'[j].2:Int)] 210)) wr.heap.size 210 #[.int .i64 (l'[j].1:Int),.int .u8 (l'[j].2:Int)]:=Blk.new wr _ _
        have hB1:Below b0 w (wr.alloc (.cells #[.int .i64 (l'[j].1:Int),.int .u8 (l'[j].2:Int)] 210)):=HB.out.trans (hba.mono (Nat.le_trans HBB.out.2 (by
         have:=HM.out.mb.lt;have:=HB.out.size;omega)))
        have hndl:(nds (TP (wsL vs) n j)).length=(TP (wsL vs) n j).length:=List.length_map _;clear hba;go_upto_region 14 with fail;obtain⟨W1,hW1⟩:∃ W1,(wr.alloc (.cells #[.int .i64 (l'[j].1:Int),.int .u8 (l'[j].2:Int)] 210))=W1:=⟨_,rfl⟩;rw [hW1] at hM1 hE1 hX1 hB1⊢;obtain⟨gX,hgX⟩:∃ gX,wr.heap.size=gX:=⟨_,rfl⟩;rw [hgX] at hX1⊢;have hgXE:gE<gX:=(by rw [<-hgX];exact hgl);obtain⟨x,hx⟩:∃ x:Nat×Nat,x=l'[j]:=⟨_,rfl⟩;rw [<-hx] at hX1 HNX HSU⊢;have hgXm:gm≠gX/\gk≠gX/\ga≠gX:=by have:=HB.out.size;rw [<-hgX];exact⟨by omega,by omega,by omega⟩
        have hnX:nv.ownBlock≠some gX:=λ e=>by
         have:=(World.ownsRow.lt HM.out.ow gX e).2;omega
        obtain⟨g,c,hnf,hgb,hgw1⟩:=hM1.form (by rw [hndl];omega);subst hnf;obtain⟨N,hNe⟩:∃ N,N=(nds (TP (wsL vs) n j)).length:=⟨_,rfl⟩;have HNe:=qh hNe;have HHl:=qh hndl;have HTl:=qh hTl;have HTa:=qh hTall;have hN400:N<=400:=(by rw [hNe,hndl];exact hT4);have hN1:nK+1=N:=(by rw [hNe,hndl];exact hnK);rw [<-hNe] at hM1 hnv hnX;have HM1:=qh hM1;have HE1:=qh hE1;have HX1:=qh hX1;have HB1:=qh hB1;have m0:=Blk.e0 hM1.mb;clear hW1 hgX hx hNe hndl hTl hTall hM1 hE1 hX1 hB1 e0 e1 hgl hadb hT4 HE HB HM;by_cases h400:N=400
        . have d4:((N:Int)==400)=true:=beq_iff_eq.2 (by omega);have HBIG:Hid (400<(tx (wsL vs) (n+1)).length):=qh (by have h1:=HNe.out;have h2:=HHl.out;have h3:=HTl.out;have h4:=HTa.out;omega);clear h400;go_wp2_with fail;go_ret;exact⟨HB1.out,.inl ⟨HBIG.out,rfl⟩⟩
        . have d4:((N:Int)==400)=false:=beq_eq_false_iff_ne.2 (by omega);have hN4:N+1<=400:=(by omega);have HM1d:Hid (Mk b0 gm gk ga (.slice (some ⟨g,0,none⟩) N c) (nds (TP (wsL vs) n j)) nK (kd (TP (wsL vs) n j)) aw W1.drew):=qh HM1.out.drew;obtain⟨hx1,hx2,hx3,hx4,hx5⟩:=HNX.out;have hxN:x.1<N:=(by have h1:=HNe.out;have h2:=HHl.out;have h3:=HTl.out;rw [<-HTE.out] at hx1;omega);obtain⟨w2,hrun,hem2,hg2⟩:=HM1d.out.em.put_run (by unfold maxLen;omega) (x.1:Int) (x.2:Int) N (kN5 (by omega)) (wf_b hx2) (kN5 (by omega))
          have hF:zF8 (kd (TP (wsL vs) n j)) (x.1:Int) (x.2:Int) N=kd (TP (wsL vs) n (j+1)):=by
           funext u' b'
           rw [HSU.out];have hxT:x.1<(TP (wsL vs) n j).length:=(by have h1:=HNe.out;have h2:=HHl.out;omega);rw [<-ZS5 HGD.out hxT hx2 hx3 hx4];unfold zF8;rw [HNe.out,HHl.out]
          rw [hF] at hem2;have hM2:=HM1d.out.put hem2 hg2;have HE2:Hid (Ek (some ad) l' gE w2):=qh (Ek.grown (wr:=W1.drew) (HE1.out.below (below_drewN (Below.refl _ _) 1)) hg2 (by intro e;injection e with e;have:=gklt;omega));have hX2:Blk w2 gX 210 #[.int .i64 (x.1:Int),.int .u8 (x.2:Int)]:=Blk.grown (w:=W1.drew) HX1.out.drew hg2 (by intro e;injection e with e;exact hgXm.2.1 e.symm);have HB2:Hid (Below b0 w w2):=qh (HB1.out.trans ((below_drewN (Below.refl _ _) 1:Below b0 W1 W1.drew).grown hg2 (by have:=HB1.out.size;have:=HBB.out.2;show b0<=W1.heap.size;omega) λ k e=>by injection e with e;rw [<-e];exact HM1.out.lo.2.1));have HM2:=qh hM2;have HX2:=qh hX2;have m1:=Blk.e1 HM1.out.mb;obtain⟨x0,x1⟩:=Blk.c2 HX1.out;clear h400 hem2 hg2 hF hM2 hX2;go_wp2_with fail;go_region
          all_goals
           clear hrun x0 x1 m0 m1;have hmd:=HM2.out.drew;have hXd:Blk w2.drew gX 210 #[.int .i64 (x.1:Int),.int .u8 (x.2:Int)]:=HX2.out.drew
           have hFL:∀ i,i<N->(λ i=>((nds (TP (wsL vs) n j)).getD i (0,0,0)).2.2) i=flI (TP (wsL vs) n j) ((TP (wsL vs) n j).getD i []):=λ i hi=>by
            have hi2:i<(TP (wsL vs) n j).length:=(by have h1:=HNe.out;have h2:=HHl.out;omega);show ((nds (TP (wsL vs) n j)).getD i (0,0,0)).2.2=_;rw [gD _ (by have h2:=HHl.out;omega),gD _ hi2];unfold nds;rw [List.getElem_map];rfl
           have hFb:∀ i,i<N->(λ i=>((nds (TP (wsL vs) n j)).getD i (0,0,0)).2.2) i<N/\(0<i->(λ i=>((nds (TP (wsL vs) n j)).getD i (0,0,0)).2.2) i<i):=λ i hi=>by
            have hi2:i<(TP (wsL vs) n j).length:=(by have h1:=HNe.out;have h2:=HHl.out;omega);rw [hFL i hi];by_cases hne:(TP (wsL vs) n j).getD i []= []
            . rw [hne,yl4];exact⟨by omega,id⟩
            . obtain⟨k1,k2,_⟩:=HGD.out.fl hne;refine⟨by have h1:=HNe.out;have h2:=HHl.out;omega,λ _=> ?_⟩;refine Nat.lt_of_not_le λ hle=> ?_
              have h1:=HGD.out.le hle k1;have h2:=k2.1;omega
           have hfl:∀ i,i<N->w2.drew.cell? ⟨((⟨g,0,none⟩:Addr).add (i*4)).block,((⟨g,0,none⟩:Addr).add (i*4)).off+2,none⟩=some (.int .i64 ((λ i=>((nds (TP (wsL vs) n j)).getD i (0,0,0)).2.2) i:Int)):=λ i hi=>by
            have hi2:i<(nds (TP (wsL vs) n j)).length:=(by have h1:=HNe.out;omega);have h1:=hmd.fl (ad:=⟨g,0,none⟩) (c:=c) (i:=i) (by rw [<-HNe.out]) hi2;rw [h1];show _=some (Value.int .i64 (((nds (TP (wsL vs) n j)).getD i (0,0,0)).2.2:Int));rw [gD _ hi2]
           have hgw2:g<w2.drew.heap.size:=(World.ownsRow.lt hmd.ow g rfl).2;obtain⟨fx,hfx⟩:∃ fx,fx=fsX (kd (TP (wsL vs) n (j+1))) (λ i=>((nds (TP (wsL vs) n j)).getD i (0,0,0)).2.2) x.1 (x.2:Int):=⟨_,rfl⟩
           have CF:Hid (Calls Tryz.prog 167 #[.pointer (some ⟨gm,0,none⟩),.agg #[.int .i64 (x.1:Int),.int .u8 (x.2:Int)]] w2.drew λ e w'=>e= .returned (.int .i64 (fx:Int))/\Below w2.drew.heap.size w2.drew w'):=qh (by
            rw [hfx];exact Xz1 w2.drew gm gk ⟨g,0,none⟩ N c (nK+1) x.1 x.2 (.slice (some ⟨ga,0,none⟩) aw.length aw.length) (λ i=>((nds (TP (wsL vs) n j)).getD i (0,0,0)).2.2) (kd (TP (wsL vs) n (j+1))) hmd.mb hfl hgw2 hmd.em hN400 hxN hx2 hFb)
           have HFX:Hid (fx=flI (TP (wsL vs) n j) (etx (TP (wsL vs) n j) x)):=qh (by
            rw [hfx,HSU.out];exact kD5 HGD.out (by have h1:=HNe.out;have h2:=HHl.out;show x.1<_;omega) hx2 hx3 hx4 (λ i hi=>hFL i (by have h1:=HNe.out;have h2:=HHl.out;omega)))
           have q0:w2.drew.cell? ⟨gm,0,none⟩=some (.slice (some ⟨g,0,none⟩) N c):=hmd.mb.cell 0;have qf:w2.drew.frozen? ⟨gm,0,none⟩=false:=hmd.mb.frozen 0;have qx0:w2.drew.cell? ⟨gX,0,none⟩=some (.int .i64 (x.1:Int)):=hXd.cell 0;have qx1:w2.drew.cell? ⟨gX,1,none⟩=some (.int .u8 (x.2:Int)):=hXd.cell 1;clear hfx hFL hFb hfl hgw2;have hkd:Kp b0 gm gk ga gX (.slice (some ⟨g,0,none⟩) N c) (nds (TP (wsL vs) n j)) (nK+1) (kd (TP (wsL vs) n (j+1))) aw x w2.drew:=⟨hmd,hXd⟩;have HSK:Hid (∀ w',Kp b0 gm gk ga gX (.slice (some ⟨g,0,none⟩) N c) (nds (TP (wsL vs) n j)) (nK+1) (kd (TP (wsL vs) n (j+1))) aw x w'->w'.cell? ⟨gX,0,none⟩=some (.int .i64 (x.1:Int))/\w'.cell? ⟨gX,1,none⟩=some (.int .u8 (x.2:Int))):=qh λ w' h=>⟨h.xb.cell 0,h.xb.cell 1⟩
           have hnl3:(nds (TP (wsL vs) n j)).length=N:=HNe.out.symm;have HNL:=qh hnl3;clear hnl3 hmd hXd qx0 qx1;go_wp2_with fail;refine wp_region_held_drew (S:=λ w'=>w'.cell? ⟨gX,0,none⟩=some (.int .i64 (x.1:Int))/\w'.cell? ⟨gX,1,none⟩=some (.int .u8 (x.2:Int))) (by kernel_rfl) ?_ (λ hHeld=> ?_)
           . (try dsimp only)
             (first|exact HSK.out _ (by assumption)|exact HSK.out _ (Kp.alloc (by assumption) _)|exact⟨by assumption,by assumption⟩|exact⟨(World.cell?_setCell_far _ _ _ _ (by dsimp only;omega)).trans (by assumption),(World.cell?_setCell_far _ _ _ _ (by dsimp only;omega)).trans (by assumption)⟩)
           refine wpAnyH_take (i:=0) (oi:=_) (v:= ?_) rfl (by kernel_rfl) (by kernel_rfl) (by kernel_rfl) (λ _ _ _ h=>h) (Or.inl ⟨by rfl,?_⟩) (by assumption) ?_
           rotate_left
           . intro w hSw;(try dsimp only at hSw);go_simp
             try with_reducible rfl
           try simp only [Act.put,List.getElem_toArray,List.getElem_cons_succ,List.getElem_cons_zero,List.setIfInBounds_toArray,List.set_cons_zero,List.set_cons_succ]
           refine wpAnyH_take (i:=1) (oi:=_) (v:= ?_) rfl (by kernel_rfl) (by kernel_rfl) (by kernel_rfl) (λ _ _ _ h=>h) (Or.inl ⟨by rfl,?_⟩) (by assumption) ?_
           rotate_left
           . intro w hSw;(try dsimp only at hSw);go_simp
             try with_reducible rfl
           try simp only [Act.put,List.getElem_toArray,List.getElem_cons_succ,List.getElem_cons_zero,List.setIfInBounds_toArray,List.set_cons_zero,List.set_cons_succ]
           refine wpAnyH_take (i:=2) (oi:=_) (v:= ?_) rfl (by kernel_rfl) (by kernel_rfl) (by kernel_rfl) (λ _ _ _ h=>h) (Or.inl ⟨by rfl,?_⟩) (by assumption) ?_
           rotate_left
           . intro w hSw;(try dsimp only at hSw);go_simp
             try with_reducible rfl
           try simp only [Act.put,List.getElem_toArray,List.getElem_cons_succ,List.getElem_cons_zero,List.setIfInBounds_toArray,List.set_cons_zero,List.set_cons_succ]
           refine wpAnyH_take (i:=3) (oi:=_) (v:= ?_) rfl (by kernel_rfl) (by kernel_rfl) (by kernel_rfl) (λ _ _ _ h=>h) (Or.inl ⟨by rfl,?_⟩) (by assumption) ?_
           rotate_left
           . intro w hSw;(try dsimp only at hSw);go_simp
             try with_reducible rfl
           try simp only [Act.put,List.getElem_toArray,List.getElem_cons_succ,List.getElem_cons_zero,List.setIfInBounds_toArray,List.set_cons_zero,List.set_cons_succ]
           refine wpAnyH_take (i:=5) (oi:=_) (v:= ?_) rfl (by kernel_rfl) (by kernel_rfl) (by kernel_rfl) (λ _ _ _ h=>h) (Or.inl ⟨by rfl,?_⟩) (by assumption) ?_
           rotate_left
           . intro w hSw;(try dsimp only at hSw);go_simp
             try with_reducible rfl
           try simp only [Act.put,List.getElem_toArray,List.getElem_cons_succ,List.getElem_cons_zero,List.setIfInBounds_toArray,List.set_cons_zero,List.set_cons_succ]
           refine wpAnyH_take (i:=6) (oi:=_) (v:= ?_) rfl (by kernel_rfl) (by kernel_rfl) (by kernel_rfl) (λ _ _ _ h=>h) (Or.inl ⟨by rfl,?_⟩) (by assumption) ?_
           rotate_left
           . intro w hSw;(try dsimp only at hSw);go_simp
             try with_reducible rfl
           try simp only [Act.put,List.getElem_toArray,List.getElem_cons_succ,List.getElem_cons_zero,List.setIfInBounds_toArray,List.set_cons_zero,List.set_cons_succ]
           refine wpAnyH_take (i:=7) (oi:=_) (v:= ?_) rfl (by kernel_rfl) (by kernel_rfl) (by kernel_rfl) (λ _ _ _ h=>h) (Or.inl ⟨by rfl,?_⟩) (by assumption) ?_
           rotate_left
           . intro w hSw;(try dsimp only at hSw);go_simp
             try with_reducible rfl
           try simp only [Act.put,List.getElem_toArray,List.getElem_cons_succ,List.getElem_cons_zero,List.setIfInBounds_toArray,List.set_cons_zero,List.set_cons_succ]
           refine wpAnyH_take (i:=8) (oi:=_) (v:= ?_) rfl (by kernel_rfl) (by kernel_rfl) (by kernel_rfl) (λ _ _ _ h=>h) (Or.inl ⟨by rfl,?_⟩) (by assumption) ?_
           rotate_left
           . intro w hSw;(try dsimp only at hSw);go_simp
             try with_reducible rfl
           try simp only [Act.put,List.getElem_toArray,List.getElem_cons_succ,List.getElem_cons_zero,List.setIfInBounds_toArray,List.set_cons_zero,List.set_cons_succ]
           refine wpAnyH_take (i:=9) (oi:=_) (v:= ?_) rfl (by kernel_rfl) (by kernel_rfl) (by kernel_rfl) (λ _ _ _ h=>h) (Or.inl ⟨by rfl,?_⟩) (by assumption) ?_
           rotate_left
           . intro w hSw;(try dsimp only at hSw);go_simp
             try with_reducible rfl
           try simp only [Act.put,List.getElem_toArray,List.getElem_cons_succ,List.getElem_cons_zero,List.setIfInBounds_toArray,List.set_cons_zero,List.set_cons_succ]
           refine wpAnyH_take (i:=10) (oi:=_) (v:= ?_) rfl (by kernel_rfl) (by kernel_rfl) (by kernel_rfl) (λ _ _ _ h=>h) (Or.inl ⟨by rfl,?_⟩) (by assumption) ?_
           rotate_left
           . intro w hSw;(try dsimp only at hSw);go_simp
             try with_reducible rfl
           try simp only [Act.put,List.getElem_toArray,List.getElem_cons_succ,List.getElem_cons_zero,List.setIfInBounds_toArray,List.set_cons_zero,List.set_cons_succ]
           refine wpAnyH_ready (rs:= [4,11]) (by kernel_rfl) (by simp) ?_;refine AllReadyH.cons (o:=_) rfl (λ K hK=> ?_) ?_
           . go_simp
             refine hK.out _ _ ?_ (λ hHeld=> ?_)
             . (try dsimp only)
               (first|exact HSK.out _ (by assumption)|exact HSK.out _ (Kp.alloc (by assumption) _)|exact⟨by assumption,by assumption⟩|exact⟨(World.cell?_setCell_far _ _ _ _ (by dsimp only;omega)).trans (by assumption),(World.cell?_setCell_far _ _ _ _ (by dsimp only;omega)).trans (by assumption)⟩)
             clear hK K;try simp only [Act.put,List.getElem_toArray,List.getElem_cons_succ,List.getElem_cons_zero,List.setIfInBounds_toArray,List.set_cons_zero,List.set_cons_succ]
             refine wpAnyH_ready (rs:= [11]) (by kernel_rfl) (by simp) ?_;refine AllReadyH.cons (o:=_) rfl (λ K hK=> ?_) ?_
             . go_simp
               refine CF.out.mono ?_;rintro e w3 ⟨rfl,hb3⟩;have hk3:=hkd.step hb3;have hs3:b0<=w3.heap.size:=Nat.le_trans hk3.kk.lo.1 (Nat.le_of_lt (Blk.lt hk3.kk.mb));have r0:=Blk.e0 hk3.kk.mb;have y0:(w3.alloc (.cells #[.int .u8 (x.2:Int),.int .i64 (x.1:Int),.int .i64 (fx:Int),.slice none 0 0] 165)).cell? ⟨gm,0,none⟩=some (.slice (some ⟨g,0,none⟩) N c):=(Blk.alloc hk3.kk.mb _).cell 0;try go_wp2_with fail
               refine hK.out _ _ ?_ (λ hHeld=> ?_)
               . (try dsimp only)
                 (first|exact HSK.out _ (by assumption)|exact HSK.out _ (Kp.alloc (by assumption) _)|exact⟨by assumption,by assumption⟩|exact⟨(World.cell?_setCell_far _ _ _ _ (by dsimp only;omega)).trans (by assumption),(World.cell?_setCell_far _ _ _ _ (by dsimp only;omega)).trans (by assumption)⟩)
               clear hK K;try simp only [Act.put,List.getElem_toArray,List.getElem_cons_succ,List.getElem_cons_zero,List.setIfInBounds_toArray,List.set_cons_zero,List.set_cons_succ]
               refine wpAnyH_take (i:=12) (oi:=_) (v:= ?_) rfl (by kernel_rfl) (by kernel_rfl) (by kernel_rfl) (λ _ _ _ h=>h) (Or.inl ⟨by rfl,?_⟩) (by assumption) ?_
               rotate_left
               . intro w hSw;(try dsimp only at hSw);go_simp
                 try with_reducible rfl
               try simp only [Act.put,List.getElem_toArray,List.getElem_cons_succ,List.getElem_cons_zero,List.setIfInBounds_toArray,List.set_cons_zero,List.set_cons_succ]
               refine wpAnyH_ready (rs:= [13]) (by kernel_rfl) (by simp) ?_;refine AllReadyH.cons (o:=_) rfl (λ K hK=> ?_) ?_
               . go_simp
                 refine hK.out _ _ ?_ (λ hHeld=> ?_)
                 . (try dsimp only)
                   (first|exact HSK.out _ (by assumption)|exact HSK.out _ (Kp.alloc (by assumption) _)|exact⟨by assumption,by assumption⟩|exact⟨(World.cell?_setCell_far _ _ _ _ (by dsimp only;omega)).trans (by assumption),(World.cell?_setCell_far _ _ _ _ (by dsimp only;omega)).trans (by assumption)⟩)
                 clear hK K;try simp only [Act.put,List.getElem_toArray,List.getElem_cons_succ,List.getElem_cons_zero,List.setIfInBounds_toArray,List.set_cons_zero,List.set_cons_succ]
                 refine wpAnyH_ready (rs:= [14]) (by kernel_rfl) (by simp) ?_;refine AllReadyH.cons (o:=_) rfl (λ K hK=> ?_) ?_
                 . refine yP5 (w:=w3) (D:=nds (TP (wsL vs) n j)) rfl (.tmp 74) (.tmp 83) rfl (by have h:=hk3.kk.ow;rw [HNL.out] at h⊢;exact h) rfl (x.2,x.1,fx) rfl (by rw [HNL.out];omega) hs3 N HNL.out ?_;intro A4 c4 w4 h4 g4;have b4:=g4.blk hk3.kk.mb hk3.kk.nn.1;have v0:=Blk.e0 b4;have vf:=Blk.frozen b4 0;have vx:=g4.blk hk3.xb hnX;obtain⟨vx0,vx1⟩:=Blk.c2 vx;refine hK.out _ _ ?_ (λ hHeld=> ?_)
                   . (try dsimp only)
                     (first|exact HSK.out _ (by assumption)|exact HSK.out _ (Kp.alloc (by assumption) _)|exact⟨by assumption,by assumption⟩|exact⟨(World.cell?_setCell_far _ _ _ _ (by dsimp only;omega)).trans (by assumption),(World.cell?_setCell_far _ _ _ _ (by dsimp only;omega)).trans (by assumption)⟩)
                   clear hK K;try simp only [Act.put,List.getElem_toArray,List.getElem_cons_succ,List.getElem_cons_zero,List.setIfInBounds_toArray,List.set_cons_zero,List.set_cons_succ]
                   refine wpAnyH_take (i:=15) (oi:=_) (v:= ?_) rfl (by kernel_rfl) (by kernel_rfl) (by kernel_rfl) (λ _ _ _ h=>h) (Or.inl ⟨by rfl,?_⟩) (by assumption) ?_
                   rotate_left
                   . intro w hSw;(try dsimp only at hSw);go_simp
                     try with_reducible rfl
                   try simp only [Act.put,List.getElem_toArray,List.getElem_cons_succ,List.getElem_cons_zero,List.setIfInBounds_toArray,List.set_cons_zero,List.set_cons_succ]
                   refine wpAnyH_take (i:=16) (oi:=_) (v:= ?_) rfl (by kernel_rfl) (by kernel_rfl) (by kernel_rfl) (λ _ _ _ h=>h) (Or.inl ⟨by rfl,?_⟩) (by assumption) ?_
                   rotate_left
                   . intro w hSw;(try dsimp only at hSw);go_simp
                     try with_reducible rfl
                   try simp only [Act.put,List.getElem_toArray,List.getElem_cons_succ,List.getElem_cons_zero,List.setIfInBounds_toArray,List.set_cons_zero,List.set_cons_succ]
                   refine wpAnyH_ready (rs:= [17]) (by kernel_rfl) (by simp) ?_;refine AllReadyH.cons (o:=_) rfl (λ K hK=> ?_) ?_
                   . go_simp
                     refine hK.out _ _ ?_ (λ hHeld=> ?_)
                     . (try dsimp only)
                       (first|exact HSK.out _ (by assumption)|exact HSK.out _ (Kp.alloc (by assumption) _)|exact⟨by assumption,by assumption⟩|exact⟨(World.cell?_setCell_far _ _ _ _ (by dsimp only;omega)).trans (by assumption),(World.cell?_setCell_far _ _ _ _ (by dsimp only;omega)).trans (by assumption)⟩)
                     clear hK K;try simp only [Act.put,List.getElem_toArray,List.getElem_cons_succ,List.getElem_cons_zero,List.setIfInBounds_toArray,List.set_cons_zero,List.set_cons_succ]
                     refine wpAnyH_done (by kernel_rfl) ?_ _
                     have HM5:Hid (Mk b0 gm gk ga (.slice A4 (N+1) c4) (nds (TP (wsL vs) n (j+1))) (nK+1) (kd (TP (wsL vs) n (j+1))) aw (w4.setCell ⟨gm,0,none⟩ (.slice A4 (N+1) c4))):=qh (by
                      have h:=hk3.kk.app (x:=(x.2,x.1,fx)) (by rw [HNL.out];exact h4) g4;rw [HSU.out] at h⊢;rw [Xy7 HGD.out (by have h1:=HNe.out;have h2:=HHl.out;show x.1<_;omega) hx2 hx4,<-HFX.out];exact h)
                     have hE3:Ek (some ad) l' gE w3:=Ek.below (wr:=w2.drew) (HE2.out.below (below_drewN (Below.refl _ _) 1)) hb3;have HE5:Hid (Ek (some ad) l' gE (w4.setCell ⟨gm,0,none⟩ (.slice A4 (N+1) c4))):=qh ((hE3.grown g4.grown (λ e=>hnv e.symm)).setCell ⟨gm,0,none⟩ (by dsimp only;omega) _)
                     have hB5:Below b0 w (w4.setCell ⟨gm,0,none⟩ (.slice A4 (N+1) c4)):=by
                      have h1:Below b0 w w2.drew:=below_drewN HB2.out 1;have h2:=h1.trans (hb3.mono (Nat.le_trans HM2.out.lo.1 (Nat.le_of_lt (Blk.lt HM2.out.mb))));exact(h2.trans (g4.below hs3 λ k e=>Kw5 hk3.kk.ow k e)).setCell (p:=⟨gm,0,none⟩) HM2.out.lo.1 _
                     have HB5:=qh hB5
                     have hnv5:(Value.slice A4 (N+1) c4).ownBlock≠some gE:=by
                      have hgE3:gE<w3.heap.size:=(hE3 j hlt).1;exact g4.off hgE3 hnv
                     have hTn:(TP (wsL vs) n (j+1)).length=N+1:=(by rw [HSU.out,List.length_append,List.length_singleton,HNe.out,HHl.out]);clear hk3 hkd hb3 h4 g4 b4 v0 vf hE3 hB5 hs3 vx vx0 vx1;go_wp2_with fail;go_meet;exact⟨.slice A4 (N+1) c4,hnv5,by rw [hTn];omega,by rw [hTn];omega,HM5,HE5,HB5⟩
                   exact AllReadyH.nil
                 exact AllReadyH.nil
               exact AllReadyH.nil
             exact AllReadyH.nil
           refine AllReadyH.cons (o:=_) rfl (λ K hK=> ?_) ?_
           . go_simp
             refine CF.out.mono ?_;rintro e w3 ⟨rfl,hb3⟩;have hk3:=hkd.step hb3;have hs3:b0<=w3.heap.size:=Nat.le_trans hk3.kk.lo.1 (Nat.le_of_lt (Blk.lt hk3.kk.mb));have r0:=Blk.e0 hk3.kk.mb;have y0:(w3.alloc (.cells #[.int .u8 (x.2:Int),.int .i64 (x.1:Int),.int .i64 (fx:Int),.slice none 0 0] 165)).cell? ⟨gm,0,none⟩=some (.slice (some ⟨g,0,none⟩) N c):=(Blk.alloc hk3.kk.mb _).cell 0;try go_wp2_with fail
             refine hK.out _ _ ?_ (λ hHeld=> ?_)
             . (try dsimp only)
               (first|exact HSK.out _ (by assumption)|exact HSK.out _ (Kp.alloc (by assumption) _)|exact⟨by assumption,by assumption⟩|exact⟨(World.cell?_setCell_far _ _ _ _ (by dsimp only;omega)).trans (by assumption),(World.cell?_setCell_far _ _ _ _ (by dsimp only;omega)).trans (by assumption)⟩)
             clear hK K;try simp only [Act.put,List.getElem_toArray,List.getElem_cons_succ,List.getElem_cons_zero,List.setIfInBounds_toArray,List.set_cons_zero,List.set_cons_succ]
             refine wpAnyH_take (i:=12) (oi:=_) (v:= ?_) rfl (by kernel_rfl) (by kernel_rfl) (by kernel_rfl) (λ _ _ _ h=>h) (Or.inl ⟨by rfl,?_⟩) (by assumption) ?_
             rotate_left
             . intro w hSw;(try dsimp only at hSw);go_simp
               try with_reducible rfl
             try simp only [Act.put,List.getElem_toArray,List.getElem_cons_succ,List.getElem_cons_zero,List.setIfInBounds_toArray,List.set_cons_zero,List.set_cons_succ]
             refine wpAnyH_ready (rs:= [4,13]) (by kernel_rfl) (by simp) ?_;refine AllReadyH.cons (o:=_) rfl (λ K hK=> ?_) ?_
             . go_simp
               refine hK.out _ _ ?_ (λ hHeld=> ?_)
               . (try dsimp only)
                 (first|exact HSK.out _ (by assumption)|exact HSK.out _ (Kp.alloc (by assumption) _)|exact⟨by assumption,by assumption⟩|exact⟨(World.cell?_setCell_far _ _ _ _ (by dsimp only;omega)).trans (by assumption),(World.cell?_setCell_far _ _ _ _ (by dsimp only;omega)).trans (by assumption)⟩)
               clear hK K;try simp only [Act.put,List.getElem_toArray,List.getElem_cons_succ,List.getElem_cons_zero,List.setIfInBounds_toArray,List.set_cons_zero,List.set_cons_succ]
               refine wpAnyH_ready (rs:= [13]) (by kernel_rfl) (by simp) ?_;refine AllReadyH.cons (o:=_) rfl (λ K hK=> ?_) ?_
               . go_simp
                 refine hK.out _ _ ?_ (λ hHeld=> ?_)
                 . (try dsimp only)
                   (first|exact HSK.out _ (by assumption)|exact HSK.out _ (Kp.alloc (by assumption) _)|exact⟨by assumption,by assumption⟩|exact⟨(World.cell?_setCell_far _ _ _ _ (by dsimp only;omega)).trans (by assumption),(World.cell?_setCell_far _ _ _ _ (by dsimp only;omega)).trans (by assumption)⟩)
                 clear hK K;try simp only [Act.put,List.getElem_toArray,List.getElem_cons_succ,List.getElem_cons_zero,List.setIfInBounds_toArray,List.set_cons_zero,List.set_cons_succ]
                 refine wpAnyH_ready (rs:= [14]) (by kernel_rfl) (by simp) ?_;refine AllReadyH.cons (o:=_) rfl (λ K hK=> ?_) ?_
                 . refine yP5 (w:=w3) (D:=nds (TP (wsL vs) n j)) rfl (.tmp 74) (.tmp 83) rfl (by have h:=hk3.kk.ow;rw [HNL.out] at h⊢;exact h) rfl (x.2,x.1,fx) rfl (by rw [HNL.out];omega) hs3 N HNL.out ?_;intro A4 c4 w4 h4 g4;have b4:=g4.blk hk3.kk.mb hk3.kk.nn.1;have v0:=Blk.e0 b4;have vf:=Blk.frozen b4 0;have vx:=g4.blk hk3.xb hnX;obtain⟨vx0,vx1⟩:=Blk.c2 vx;refine hK.out _ _ ?_ (λ hHeld=> ?_)
                   . (try dsimp only)
                     (first|exact HSK.out _ (by assumption)|exact HSK.out _ (Kp.alloc (by assumption) _)|exact⟨by assumption,by assumption⟩|exact⟨(World.cell?_setCell_far _ _ _ _ (by dsimp only;omega)).trans (by assumption),(World.cell?_setCell_far _ _ _ _ (by dsimp only;omega)).trans (by assumption)⟩)
                   clear hK K;try simp only [Act.put,List.getElem_toArray,List.getElem_cons_succ,List.getElem_cons_zero,List.setIfInBounds_toArray,List.set_cons_zero,List.set_cons_succ]
                   refine wpAnyH_take (i:=15) (oi:=_) (v:= ?_) rfl (by kernel_rfl) (by kernel_rfl) (by kernel_rfl) (λ _ _ _ h=>h) (Or.inl ⟨by rfl,?_⟩) (by assumption) ?_
                   rotate_left
                   . intro w hSw;(try dsimp only at hSw);go_simp
                     try with_reducible rfl
                   try simp only [Act.put,List.getElem_toArray,List.getElem_cons_succ,List.getElem_cons_zero,List.setIfInBounds_toArray,List.set_cons_zero,List.set_cons_succ]
                   refine wpAnyH_take (i:=16) (oi:=_) (v:= ?_) rfl (by kernel_rfl) (by kernel_rfl) (by kernel_rfl) (λ _ _ _ h=>h) (Or.inl ⟨by rfl,?_⟩) (by assumption) ?_
                   rotate_left
                   . intro w hSw;(try dsimp only at hSw);go_simp
                     try with_reducible rfl
                   try simp only [Act.put,List.getElem_toArray,List.getElem_cons_succ,List.getElem_cons_zero,List.setIfInBounds_toArray,List.set_cons_zero,List.set_cons_succ]
                   refine wpAnyH_ready (rs:= [17]) (by kernel_rfl) (by simp) ?_;refine AllReadyH.cons (o:=_) rfl (λ K hK=> ?_) ?_
                   . go_simp
                     refine hK.out _ _ ?_ (λ hHeld=> ?_)
                     . (try dsimp only)
                       (first|exact HSK.out _ (by assumption)|exact HSK.out _ (Kp.alloc (by assumption) _)|exact⟨by assumption,by assumption⟩|exact⟨(World.cell?_setCell_far _ _ _ _ (by dsimp only;omega)).trans (by assumption),(World.cell?_setCell_far _ _ _ _ (by dsimp only;omega)).trans (by assumption)⟩)
                     clear hK K;try simp only [Act.put,List.getElem_toArray,List.getElem_cons_succ,List.getElem_cons_zero,List.setIfInBounds_toArray,List.set_cons_zero,List.set_cons_succ]
                     refine wpAnyH_done (by kernel_rfl) ?_ _
                     have HM5:Hid (Mk b0 gm gk ga (.slice A4 (N+1) c4) (nds (TP (wsL vs) n (j+1))) (nK+1) (kd (TP (wsL vs) n (j+1))) aw (w4.setCell ⟨gm,0,none⟩ (.slice A4 (N+1) c4))):=qh (by
                      have h:=hk3.kk.app (x:=(x.2,x.1,fx)) (by rw [HNL.out];exact h4) g4;rw [HSU.out] at h⊢;rw [Xy7 HGD.out (by have h1:=HNe.out;have h2:=HHl.out;show x.1<_;omega) hx2 hx4,<-HFX.out];exact h)
                     have hE3:Ek (some ad) l' gE w3:=Ek.below (wr:=w2.drew) (HE2.out.below (below_drewN (Below.refl _ _) 1)) hb3;have HE5:Hid (Ek (some ad) l' gE (w4.setCell ⟨gm,0,none⟩ (.slice A4 (N+1) c4))):=qh ((hE3.grown g4.grown (λ e=>hnv e.symm)).setCell ⟨gm,0,none⟩ (by dsimp only;omega) _)
                     have hB5:Below b0 w (w4.setCell ⟨gm,0,none⟩ (.slice A4 (N+1) c4)):=by
                      have h1:Below b0 w w2.drew:=below_drewN HB2.out 1;have h2:=h1.trans (hb3.mono (Nat.le_trans HM2.out.lo.1 (Nat.le_of_lt (Blk.lt HM2.out.mb))));exact(h2.trans (g4.below hs3 λ k e=>Kw5 hk3.kk.ow k e)).setCell (p:=⟨gm,0,none⟩) HM2.out.lo.1 _
                     have HB5:=qh hB5
                     have hnv5:(Value.slice A4 (N+1) c4).ownBlock≠some gE:=by
                      have hgE3:gE<w3.heap.size:=(hE3 j hlt).1;exact g4.off hgE3 hnv
                     have hTn:(TP (wsL vs) n (j+1)).length=N+1:=(by rw [HSU.out,List.length_append,List.length_singleton,HNe.out,HHl.out]);clear hk3 hkd hb3 h4 g4 b4 v0 vf hE3 hB5 hs3 vx vx0 vx1;go_wp2_with fail;go_meet;exact⟨.slice A4 (N+1) c4,hnv5,by rw [hTn];omega,by rw [hTn];omega,HM5,HE5,HB5⟩
                   exact AllReadyH.nil
                 exact AllReadyH.nil
               exact AllReadyH.nil
             refine AllReadyH.cons (o:=_) rfl (λ K hK=> ?_) ?_
             . go_simp
               refine hK.out _ _ ?_ (λ hHeld=> ?_)
               . (try dsimp only)
                 (first|exact HSK.out _ (by assumption)|exact HSK.out _ (Kp.alloc (by assumption) _)|exact⟨by assumption,by assumption⟩|exact⟨(World.cell?_setCell_far _ _ _ _ (by dsimp only;omega)).trans (by assumption),(World.cell?_setCell_far _ _ _ _ (by dsimp only;omega)).trans (by assumption)⟩)
               clear hK K;try simp only [Act.put,List.getElem_toArray,List.getElem_cons_succ,List.getElem_cons_zero,List.setIfInBounds_toArray,List.set_cons_zero,List.set_cons_succ]
               refine wpAnyH_ready (rs:= [4]) (by kernel_rfl) (by simp) ?_;refine AllReadyH.cons (o:=_) rfl (λ K hK=> ?_) ?_
               . go_simp
                 refine hK.out _ _ ?_ (λ hHeld=> ?_)
                 . (try dsimp only)
                   (first|exact HSK.out _ (by assumption)|exact HSK.out _ (Kp.alloc (by assumption) _)|exact⟨by assumption,by assumption⟩|exact⟨(World.cell?_setCell_far _ _ _ _ (by dsimp only;omega)).trans (by assumption),(World.cell?_setCell_far _ _ _ _ (by dsimp only;omega)).trans (by assumption)⟩)
                 clear hK K;try simp only [Act.put,List.getElem_toArray,List.getElem_cons_succ,List.getElem_cons_zero,List.setIfInBounds_toArray,List.set_cons_zero,List.set_cons_succ]
                 refine wpAnyH_ready (rs:= [14]) (by kernel_rfl) (by simp) ?_;refine AllReadyH.cons (o:=_) rfl (λ K hK=> ?_) ?_
                 . refine yP5 (w:=w3) (D:=nds (TP (wsL vs) n j)) rfl (.tmp 74) (.tmp 83) rfl (by have h:=hk3.kk.ow;rw [HNL.out] at h⊢;exact h) rfl (x.2,x.1,fx) rfl (by rw [HNL.out];omega) hs3 N HNL.out ?_;intro A4 c4 w4 h4 g4;have b4:=g4.blk hk3.kk.mb hk3.kk.nn.1;have v0:=Blk.e0 b4;have vf:=Blk.frozen b4 0;have vx:=g4.blk hk3.xb hnX;obtain⟨vx0,vx1⟩:=Blk.c2 vx;refine hK.out _ _ ?_ (λ hHeld=> ?_)
                   . (try dsimp only)
                     (first|exact HSK.out _ (by assumption)|exact HSK.out _ (Kp.alloc (by assumption) _)|exact⟨by assumption,by assumption⟩|exact⟨(World.cell?_setCell_far _ _ _ _ (by dsimp only;omega)).trans (by assumption),(World.cell?_setCell_far _ _ _ _ (by dsimp only;omega)).trans (by assumption)⟩)
                   clear hK K;try simp only [Act.put,List.getElem_toArray,List.getElem_cons_succ,List.getElem_cons_zero,List.setIfInBounds_toArray,List.set_cons_zero,List.set_cons_succ]
                   refine wpAnyH_take (i:=15) (oi:=_) (v:= ?_) rfl (by kernel_rfl) (by kernel_rfl) (by kernel_rfl) (λ _ _ _ h=>h) (Or.inl ⟨by rfl,?_⟩) (by assumption) ?_
                   rotate_left
                   . intro w hSw;(try dsimp only at hSw);go_simp
                     try with_reducible rfl
                   try simp only [Act.put,List.getElem_toArray,List.getElem_cons_succ,List.getElem_cons_zero,List.setIfInBounds_toArray,List.set_cons_zero,List.set_cons_succ]
                   refine wpAnyH_take (i:=16) (oi:=_) (v:= ?_) rfl (by kernel_rfl) (by kernel_rfl) (by kernel_rfl) (λ _ _ _ h=>h) (Or.inl ⟨by rfl,?_⟩) (by assumption) ?_
                   rotate_left
                   . intro w hSw;(try dsimp only at hSw);go_simp
                     try with_reducible rfl
                   try simp only [Act.put,List.getElem_toArray,List.getElem_cons_succ,List.getElem_cons_zero,List.setIfInBounds_toArray,List.set_cons_zero,List.set_cons_succ]
                   refine wpAnyH_ready (rs:= [17]) (by kernel_rfl) (by simp) ?_;refine AllReadyH.cons (o:=_) rfl (λ K hK=> ?_) ?_
                   . go_simp
                     refine hK.out _ _ ?_ (λ hHeld=> ?_)
                     . (try dsimp only)
                       (first|exact HSK.out _ (by assumption)|exact HSK.out _ (Kp.alloc (by assumption) _)|exact⟨by assumption,by assumption⟩|exact⟨(World.cell?_setCell_far _ _ _ _ (by dsimp only;omega)).trans (by assumption),(World.cell?_setCell_far _ _ _ _ (by dsimp only;omega)).trans (by assumption)⟩)
                     clear hK K;try simp only [Act.put,List.getElem_toArray,List.getElem_cons_succ,List.getElem_cons_zero,List.setIfInBounds_toArray,List.set_cons_zero,List.set_cons_succ]
                     refine wpAnyH_done (by kernel_rfl) ?_ _
                     have HM5:Hid (Mk b0 gm gk ga (.slice A4 (N+1) c4) (nds (TP (wsL vs) n (j+1))) (nK+1) (kd (TP (wsL vs) n (j+1))) aw (w4.setCell ⟨gm,0,none⟩ (.slice A4 (N+1) c4))):=qh (by
                      have h:=hk3.kk.app (x:=(x.2,x.1,fx)) (by rw [HNL.out];exact h4) g4;rw [HSU.out] at h⊢;rw [Xy7 HGD.out (by have h1:=HNe.out;have h2:=HHl.out;show x.1<_;omega) hx2 hx4,<-HFX.out];exact h)
                     have hE3:Ek (some ad) l' gE w3:=Ek.below (wr:=w2.drew) (HE2.out.below (below_drewN (Below.refl _ _) 1)) hb3;have HE5:Hid (Ek (some ad) l' gE (w4.setCell ⟨gm,0,none⟩ (.slice A4 (N+1) c4))):=qh ((hE3.grown g4.grown (λ e=>hnv e.symm)).setCell ⟨gm,0,none⟩ (by dsimp only;omega) _)
                     have hB5:Below b0 w (w4.setCell ⟨gm,0,none⟩ (.slice A4 (N+1) c4)):=by
                      have h1:Below b0 w w2.drew:=below_drewN HB2.out 1;have h2:=h1.trans (hb3.mono (Nat.le_trans HM2.out.lo.1 (Nat.le_of_lt (Blk.lt HM2.out.mb))));exact(h2.trans (g4.below hs3 λ k e=>Kw5 hk3.kk.ow k e)).setCell (p:=⟨gm,0,none⟩) HM2.out.lo.1 _
                     have HB5:=qh hB5
                     have hnv5:(Value.slice A4 (N+1) c4).ownBlock≠some gE:=by
                      have hgE3:gE<w3.heap.size:=(hE3 j hlt).1;exact g4.off hgE3 hnv
                     have hTn:(TP (wsL vs) n (j+1)).length=N+1:=(by rw [HSU.out,List.length_append,List.length_singleton,HNe.out,HHl.out]);clear hk3 hkd hb3 h4 g4 b4 v0 vf hE3 hB5 hs3 vx vx0 vx1;go_wp2_with fail;go_meet;exact⟨.slice A4 (N+1) c4,hnv5,by rw [hTn];omega,by rw [hTn];omega,HM5,HE5,HB5⟩
                   exact AllReadyH.nil
                 exact AllReadyH.nil
               exact AllReadyH.nil
             exact AllReadyH.nil
           exact AllReadyH.nil
       case rest=>
        obtain⟨nv',hnv5,hk5,hT5,HM5,HE5,HB5⟩:=hcut;go_wp2_with fail;go_roundw
        case rel=>exact⟨j+1,nv',nK+1,by go_num,by omega,by omega,hT5,hnv5,HM5,HE5,HB5⟩
        case measure=>simp [intOf];omega
     . obtain rfl:j=l'.length:=(by omega);have hTPe:TP (wsL vs) n l'.length=tx (wsL vs) (n+1):=(by rw [HL'.out];exact Q15 _ _);rw [hTPe] at hnK hT4;have HM3:Hid (Mk b0 gm gk ga nv (nds (tx (wsL vs) (n+1))) nK (kd (tx (wsL vs) (n+1))) aw wr):=qh (by rw [<-hTPe];exact HM.out);obtain⟨T',hT'⟩:∃ T',T'=tx (wsL vs) (n+1):=⟨_,rfl⟩;have HT':=qh hT';rw [<-hT'] at hnK hT4 HM3;clear hTPe hT' HM HE hnv HL' hlt hj hl30 hgw;obtain⟨wm,rfl⟩:∃ wm:World,wm=wr:=⟨_,rfl⟩;have HSm:=qh (HS.out.below (HB.out.mono HBB.out.1));go_wp2_with fail;go_loopw [90] (λ u wr=>∃ (i:Nat) (au:List Nat),u= .int .i64 (i:Int)/\i<=vs.length/\au.length=vs.length/\Hid (∀ k (hk:k<vs.length),k<i->au.getD k 0=ix T' (vs[k].data.toList.take (n+1)))/\Hid (∀ k,i<=k->k<vs.length->au.getD k 0=aw.getD k 0)/\Hid (Mk b0 gm gk ga nv (nds T') nK (kd T') au wr)/\Hid (Below b0 w wr)) (λ u _=>vs.length-(intOf u).toNat)
       case atStart=>exact⟨0,aw,rfl,Nat.zero_le _,HAL.out,qh (λ k hk h=>absurd h (Nat.not_lt_zero k)),qh (λ _ _ _=>rfl),HM3,HB⟩
       case round=>
        clear HM3 HB;obtain⟨i,au,rfl,hi,hal,HN,HO,HM,HB⟩:=hrel;by_cases hlt:i<vs.length
        . have j1:(i:Int)<(vs.length:Int):=(by omega);have j0:(0:Int)<=(i:Int):=(by omega);have hiw:IntKind.i64.wrap ((i:Int)+1)=(i:Int)+1:=IntWalk.i64_in _ (by omega);obtain⟨ad3,rfl,hab,hcl⟩:=(HS.out.below (HB.out.mono HBB.out.1)).at_ hlt;have hia:i<au.length:=(by rw [hal];exact hlt);have hai:au[i]=ix T (vs[i].data.toList.take n):=(by rw [<-gD 0 hia,HO.out i (Nat.le_refl _) hlt,HAW.out i hlt]);by_cases hn:n<vs[i].size
          . have d1:decide ((n:Int)<(vs[i].size:Int))=true:=decide_eq_true (by omega);have d2:(n:Int)<(vs[i].size:Int):=(by omega);have d3:(0:Int)<=(n:Int):=(by omega);obtain⟨a0,a1,a2,a3⟩:=HM.out.atw hia;obtain⟨_,m1,m2⟩:=Blk.c3 HM.out.mb;have j2:(i:Int)<(au.length:Int):=(by omega);obtain⟨R,hR⟩:∃ R,R=ix T' (vs[i].data.toList.take (n+1)):=⟨_,rfl⟩
            have hkv:kd T' (au[i]:Int) (vs[i][n].toNat:Int)=some R:=by
             have h1:=jy5 (qP8 hlt) (show n<vs[i].data.toList.length from hn);have e1:(edW (tx (wsL vs) n) n vs[i].data.toList).1=au[i]:=(by rw [hai,HTE.out];rfl);have e2:(edW (tx (wsL vs) n) n vs[i].data.toList).2=vs[i][n].toNat:=(by show (vs[i].data.toList.getD n 0).toNat=_;rw [Xe6 hn]);rw [e1,e2] at h1;rw [hR,HT'.out];exact h1
            have hau:au[i]<401:=by
             rw [hai];have h1:=KP1 (xH3 (qP8 hlt) n);rw [<-HTE.out] at h1;omega
            have hlk:(Instr.lookup 186 (.map (some gk)) (.agg #[.int .i64 (au[i]:Int),.int .u8 (vs[i][n].toNat:Int)]) false).run Tryz.prog wr.drew= .ok (.int .i64 (R:Int)) wr.drew:=by
             have h1:=HM.out.drew.em.get_run (au[i]:Int) (vs[i][n].toNat:Int) (kN5 (by omega)) (wf_b (UInt8.toNat_lt _));rw [hkv] at h1;exact h1
            obtain⟨y,hy⟩:∃ y,y=au[i]:=⟨_,rfl⟩;obtain⟨z,hz⟩:∃ z,z=vs[i][n].toNat:=⟨_,rfl⟩;have HR:=qh hR
            have hN2:∀ k (hk:k<vs.length),k<i+1->(au.set i R).getD k 0=ix T' (vs[k].data.toList.take (n+1)):=λ k hk hki=>by
             by_cases e:k=i
             . subst e;rw [gD 0 (by rw [List.length_set];exact hia),List.getElem_set_self];exact HR.out
             . rw [xW3 (λ h=>e h.symm)];exact HN.out k hk (by omega)
            have hO2:∀ k,i+1<=k->k<vs.length->(au.set i R).getD k 0=aw.getD k 0:=λ k hki hk=>by
             rw [xW3 (by omega)];exact HO.out k (by omega) hk
            have hM2:=HM.out.drew.setAt i R;have HN2:=qh hN2;have HO2:=qh hO2;have HM2:=qh hM2;have hga:b0<=ga:=HM.out.lo.2.2;have HB2:Hid (Below b0 w (wr.drew.setCell ⟨ga,i,none⟩ (.int .i64 (R:Int)))):=qh ((below_drewN HB.out 1).setCell (p:=⟨ga,i,none⟩) hga _);have hal2:(au.set i R).length=vs.length:=(by rw [List.length_set];exact hal);have HY:=qh hy;clear hN2 hO2 hM2 hR hkv hai HR hau hy hz a0 a3;go_wp2_with fail;go_region
            all_goals
             go_wp2_with fail;go_roundw
             case rel=>exact⟨i+1,au.set i R,by go_num,by omega,hal2,HN2,HO2,HM2,HB2⟩
             case measure=>simp [intOf];omega
          . have d1:decide ((n:Int)<(vs[i].size:Int))=false:=decide_eq_false (by omega);have d2:¬(n:Int)<(vs[i].size:Int):=by omega
            have HN2:Hid (∀ k (hk:k<vs.length),k<i+1->au.getD k 0=ix T' (vs[k].data.toList.take (n+1))):=qh λ k hk hki=>by
             by_cases e:k=i
             . subst e;rw [gD 0 hia,hai,HTE.out,HT'.out];exact(YX3 (qP8 hk) (show ¬n<vs[k].data.toList.length from hn)).symm
             . exact HN.out k hk (by omega)
            have HO2:Hid (∀ k,i+1<=k->k<vs.length->au.getD k 0=aw.getD k 0):=qh λ k hki hk=>HO.out k (by omega) hk
            clear hn hai;go_wp2_with fail;go_roundw
            case rel=>exact⟨i+1,au,by go_num,by omega,hal,HN2,HO2,HM,HB⟩
            case measure=>simp [intOf];omega
        . obtain rfl:i=vs.length:=by omega
          have hau:au=awL vs (n+1):=by
           refine List.ext_getElem (by rw [xP8];exact hal) λ k h1 h2=> ?_
           have hk:k<vs.length:=(by omega);rw [Z60 hk,<-gD 0 h1,HN.out k hk hk,HT'.out]
          have HM2:Hid (Mk b0 gm gk ga nv (nds (tx (wsL vs) (n+1))) nK (kd (tx (wsL vs) (n+1))) (awL vs (n+1)) wr):=qh (by rw [<-hau,<-HT'.out];exact HM.out);have HT4:=qh hT4;have HNK:=qh hnK;clear hau hlt hT4 hnK;go_wp2_with fail;go_ret;refine⟨HB.out,.inr ⟨by rw [<-HT'.out];exact HT4.out,rfl,nv,nK,by rw [<-HT'.out];exact HNK.out,HM2.out⟩⟩
end
end Go.Proofs.YtngepacmgabmaaaGreatDoor
