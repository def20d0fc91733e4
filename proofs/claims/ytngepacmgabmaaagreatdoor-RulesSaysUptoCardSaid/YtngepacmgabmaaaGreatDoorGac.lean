/- Rows of bools in blocks of the call's ow; Blocks of 256 bools .. -/
import Derived.Laws.IdiomCopy
import Derived.Test.YtngepacmgabmaaaGreatDoorGn
namespace Go.Proofs.YtngepacmgabmaaaGreatDoor
open Go.RowKit
set_option linter.unusedVariables false
set_option linter.unusedSimpArgs false
structure BoR (w:World) (b N:Nat) (f:Nat->Bool):Prop where
 lt:b<w.heap.size
 cell:∀ i,i<N->w.cell? ⟨b,i,none⟩=some (.bool (f i))
 frozen:∀ i,i<N->w.frozen? ⟨b,i,none⟩=false
section
variable {w w':World} {b N:Nat} {f g:Nat->Bool}
theorem BoR.congr (h:BoR w b N f) (e:∀ i,i<N->f i=g i):BoR w b N g:=⟨h.lt,λ i hi=>by rw [h.cell i hi,e i hi],h.frozen⟩
theorem BoR.below {B:Nat} (h:BoR w b N f) (hb:Below B w w') (hB:b<B):BoR w' b N f:=
 ⟨Nat.lt_of_lt_of_le h.lt hb.size,λ i hi=>(hb.cell (p:=⟨b,i,none⟩) hB).trans (h.cell i hi),λ i hi=>(hb.frozen (p:=⟨b,i,none⟩) hB).trans (h.frozen i hi)⟩
theorem BoR.kept (h:BoR w b N f) (hb:Below w.heap.size w w'):BoR w' b N f:=h.below hb h.lt
theorem BoR.alloc (h:BoR w b N f) (o:Obj):BoR (w.alloc o) b N f:=h.kept ((Below.refl _ _).alloc (Nat.le_refl _) _)
theorem BoR.drew (h:BoR w b N f):BoR w.drew b N f:=⟨h.lt,h.cell,h.frozen⟩
theorem BoR.drewN (h:BoR w b N f) (n:Nat):BoR (w.drewN n) b N f:=⟨h.lt,h.cell,h.frozen⟩
theorem BoR.set_ (h:BoR w b N f) {k:Nat} (hk:k<N) (v:Bool):BoR (w.setCell ⟨b,k,none⟩ (.bool v)) b N (λ j=>if j=k then v else f j):=by
 refine⟨by simpa [World.setCell] using h.lt,λ i hi=> ?_,λ i hi=>by rw [World.frozen?_setCell];exact h.frozen i hi⟩;by_cases e:i=k
 . subst e;rw [if_pos rfl];exact World.cell?_setCell_same _ _ _ (h.cell i hi)
 . rw [if_neg e,World.cell?_setCell_other _ _ _ _ (by intro h;injection h;omega)];exact h.cell i hi
theorem BoR.far (h:BoR w b N f) {p:Addr} (hp:p.block≠b) (v:Value):BoR (w.setCell p v) b N f:=
 ⟨by simpa [World.setCell] using h.lt,λ i hi=>by rw [World.cell?_setCell_other _ _ _ _ (by intro h;subst h;exact hp rfl)];exact h.cell i hi,λ i hi=>by rw [World.frozen?_setCell];exact h.frozen i hi⟩
theorem BoR.made (w:World) (n:Nat):BoR (w.alloc (.cells (madeCells #[.bool false] n) 4)) w.heap.size n (λ _=>false):=by
 have h:=World.rowIs_made w (.bool false) n 4;exact⟨h.lt,λ i hi=>h.cell hi,λ i _=>h.frozen i⟩
end
theorem zc256:Tryz.zeroCells172=(List.replicate 256 (Value.bool false)).toArray:=by kernel_rfl
theorem QK9 (w:World):BoR (w.alloc (.cells Tryz.zeroCells172 172)) w.heap.size 256 (λ _=>false):=by
 have h:=Blk.new w 172 Tryz.zeroCells172;refine⟨h.lt,λ i hi=> ?_,λ i _=>h.frozen i⟩;rw [h.cell i,zc256,List.getElem?_toArray,List.getElem?_replicate,if_pos hi]
set_option maxRecDepth 100000 in
set_option maxHeartbeats 400000 in
theorem JX6 (F:FuncId) (f:Nat->Bool) (w:World) (hcf:∀ (b:Int) (w':World),(callFunc F #[.int .i64 b]).run Tryz.prog w'= .ok (.enter F #[.int .i64 b]) w')
 (HC:∀ (b:Nat) (w':World),b<256->Below w.heap.size w w'->Calls Tryz.prog F #[.int .i64 (b:Int)] w' λ e w''=>e= .returned (.bool (f b))/\Below w'.heap.size w' w''):
 Calls Tryz.prog 124 #[.func (.func F) #[] #[]] w (QT2 f w):=by
 have HS:=qh (Sb2.start w);have HC:=qh HC;go_enter Tryz.func124,Tryz.ntmps124;go_wp2_with fail;go_loopw [4] (λ u wr=>∃ (b:Nat) (q:Q4),u= .int .i64 (b:Int)/\b<=256/\Sb2 w wr q/\Hid (SetOf q (ZC2 f b))) (λ u _=>256-(intOf u).toNat)
 case atStart=>exact⟨0,_,rfl,by omega,HS.out,jw0 _⟩
 case round=>
  obtain⟨b,q,rfl,hb,hS,HQ⟩:=hrel;by_cases hlt:b<256
  . have i1:(b:Int)<256:=(by omega);have CB:=qh (HC.out b wr hlt hS.be);have HSr:=qh hS;clear hS;go_wp2_with fail;refine CB.out.mono ?_;rintro e w1 ⟨rfl,b1⟩;have hS:=HSr.out.kept b1;have HB1:=qh hS.be;clear b1 CB HSr;cases hv:f b with
    |false=>
     have HN:Hid (SetOf q (ZC2 f (b+1))):=zj9 HQ.out hv;have HS2:=qh hS;clear hS hv;go_wp2_with fail;go_roundw
     case rel=>exact⟨b+1,q,by go_num,by omega,HS2.out,HN⟩
     case measure=>simp [intOf];omega
    |true=>
     have HN:Hid (SetOf (q.put b) (ZC2 f (b+1))):=kL9 HQ.out hv hlt;have hq4:b/64<4:=(by omega);have HN2:=qh (hS.setW hq4 (q.word (b/64)|||2^(b%64)));have y0:=hS.set.cell hq4;have y1:w1.frozen? ⟨w.heap.size+1,b/64,none⟩=false:=Blk.frozen hS.set _;have HV:=qh (Xv8 (q.word (b/64)) b (Q4.word_lt HQ.out.1 _));clear hS hv;rcases yA6 (b:=b) (by omega) with⟨h6,e6⟩|⟨h6,e6⟩|⟨h6,e6⟩|⟨h6,e6⟩
     all_goals
      have HP:Hid (q.put b=q.setW (b/64) (q.word (b/64)|||2^(b%64))):=rfl;rw [h6] at y0 y1 HN2 HV HP;clear h6 hq4;go_wp2_with fail;go_region
      all_goals go_wp2_with fail
      all_goals go_roundw
      case rel=>exact⟨b+1,q.put b,by go_num,by omega,by rw [HV.out,HP.out];exact HN2.out.drew,HN⟩
      case measure=>simp [intOf];omega
  . obtain rfl:b=256:=(by omega);obtain⟨y0,y1,y2,y3⟩:=Blk.c4 hS.set;obtain⟨r0,r1,r2,r3⟩:=Blk.z4 hS.res;obtain⟨f0,f1,f2,f3⟩:=Blk.f4 hS.res;have HS:=qh hS;clear hS hlt;go_wp2_with fail;obtain⟨wz,hwz,hz,z0,z1,z2,z3⟩:=HS.out.put_;rw [<-hwz];refine bodyPost_ret (v:=Qj7 q) (by simp [results,Tryz.results124,go_sem,z0,z1,z2,z3,Qj7]) rfl ⟨q,rfl,⟨HQ.out.1,λ j hj=>by rw [HQ.out.2 j hj];unfold ZC2;rw [decide_eq_true hj,Bool.true_and]⟩,hz⟩
set_option maxRecDepth 100000 in
set_option maxHeartbeats 400000 in
theorem qH9 (F:FuncId) (p p2:Addr) (f:Nat->Bool) (w:World) (hcf:∀ (b:Int) (w':World),(callFunc F #[.int .i64 b,.pointer (some p),.pointer (some p2)]).run Tryz.prog w'= .ok (.enter F #[.int .i64 b,.pointer (some p),.pointer (some p2)]) w')
 (HC:∀ (b:Nat) (w':World),b<256->Below w.heap.size w w'->Calls Tryz.prog F #[.int .i64 (b:Int),.pointer (some p),.pointer (some p2)] w' λ e w''=>e= .returned (.bool (f b))/\Below w'.heap.size w' w''):
 Calls Tryz.prog 124 #[.func (.func F) #[] #[.pointer (some p),.pointer (some p2)]] w (QT2 f w):=by
 have HS:=qh (Sb2.start w);have HC:=qh HC;go_enter Tryz.func124,Tryz.ntmps124;go_wp2_with fail;go_loopw [4] (λ u wr=>∃ (b:Nat) (q:Q4),u= .int .i64 (b:Int)/\b<=256/\Sb2 w wr q/\Hid (SetOf q (ZC2 f b))) (λ u _=>256-(intOf u).toNat)
 case atStart=>exact⟨0,_,rfl,by omega,HS.out,jw0 _⟩
 case round=>
  obtain⟨b,q,rfl,hb,hS,HQ⟩:=hrel;by_cases hlt:b<256
  . have i1:(b:Int)<256:=(by omega);have CB:=qh (HC.out b wr hlt hS.be);have HSr:=qh hS;clear hS;go_wp2_with fail;refine CB.out.mono ?_;rintro e w1 ⟨rfl,b1⟩;have hS:=HSr.out.kept b1;have HB1:=qh hS.be;clear b1 CB HSr;cases hv:f b with
    |false=>
     have HN:Hid (SetOf q (ZC2 f (b+1))):=zj9 HQ.out hv;have HS2:=qh hS;clear hS hv;go_wp2_with fail;go_roundw
     case rel=>exact⟨b+1,q,by go_num,by omega,HS2.out,HN⟩
     case measure=>simp [intOf];omega
    |true=>
     have HN:Hid (SetOf (q.put b) (ZC2 f (b+1))):=kL9 HQ.out hv hlt;have hq4:b/64<4:=(by omega);have HN2:=qh (hS.setW hq4 (q.word (b/64)|||2^(b%64)));have y0:=hS.set.cell hq4;have y1:w1.frozen? ⟨w.heap.size+1,b/64,none⟩=false:=Blk.frozen hS.set _;have HV:=qh (Xv8 (q.word (b/64)) b (Q4.word_lt HQ.out.1 _));clear hS hv;rcases yA6 (b:=b) (by omega) with⟨h6,e6⟩|⟨h6,e6⟩|⟨h6,e6⟩|⟨h6,e6⟩
     all_goals
      have HP:Hid (q.put b=q.setW (b/64) (q.word (b/64)|||2^(b%64))):=rfl;rw [h6] at y0 y1 HN2 HV HP;clear h6 hq4;go_wp2_with fail;go_region
      all_goals go_wp2_with fail
      all_goals go_roundw
      case rel=>exact⟨b+1,q.put b,by go_num,by omega,by rw [HV.out,HP.out];exact HN2.out.drew,HN⟩
      case measure=>simp [intOf];omega
  . obtain rfl:b=256:=(by omega);obtain⟨y0,y1,y2,y3⟩:=Blk.c4 hS.set;obtain⟨r0,r1,r2,r3⟩:=Blk.z4 hS.res;obtain⟨f0,f1,f2,f3⟩:=Blk.f4 hS.res;have HS:=qh hS;clear hS hlt;go_wp2_with fail;obtain⟨wz,hwz,hz,z0,z1,z2,z3⟩:=HS.out.put_;rw [<-hwz];refine bodyPost_ret (v:=Qj7 q) (by simp [results,Tryz.results124,go_sem,z0,z1,z2,z3,Qj7]) rfl ⟨q,rfl,⟨HQ.out.1,λ j hj=>by rw [HQ.out.2 j hj];unfold ZC2;rw [decide_eq_true hj,Bool.true_and]⟩,hz⟩
def n10 (b:Nat):Bool:=decide (¬b=10)
theorem yJ1 (b:Nat) (w:World) (hb:b<256):Calls Tryz.prog 210 #[.int .i64 (b:Int)] w λ e w'=>e= .returned (.bool (n10 b))/\Below w.heap.size w w':=by
 obtain⟨v,hv⟩:∃ v,v=n10 b:=⟨_,rfl⟩;rw [<-hv]
 have e:((b:Int) !=10)=v:=by
  rw [hv];unfold n10;rw [Bool.eq_iff_iff];simp;omega
 have HE:=qh e;clear hv e;go_enter Tryz.func210,Tryz.ntmps210;go_wp2_with fail;go_ret;exact⟨by rw [HE.out];rfl,Below.refl _ _⟩
theorem Kx0 (b:Int) (w':World):(callFunc 210 #[.int .i64 b]).run Tryz.prog w'= .ok (.enter 210 #[.int .i64 b]) w':=by kernel_rfl
theorem K54 (b:Nat) (w:World) (hb:b<256):Calls Tryz.prog 225 #[.int .i64 (b:Int)] w λ e w'=>e= .returned (.bool (gDp b))/\Below w.heap.size w w':=by
 obtain⟨v,hv⟩:∃ v,v=gDp b:=⟨_,rfl⟩;rw [<-hv]
 have e:v=(decide ((48:Int)<=(b:Int))&&decide ((b:Int)<=57)):=by
  rw [hv];unfold gDp J03;rw [Bool.eq_iff_iff];simp
 have HE:=qh e;clear hv e;by_cases h1:(48:Int)<=(b:Int)
 focus
  have d1:decide ((48:Int)<=(b:Int))=true:=decide_eq_true h1;by_cases h2:(b:Int)<=57
  focus
   have d2:decide ((b:Int)<=57)=true:=decide_eq_true h2;have HV:Hid (v=true):=qh (by rw [HE.out,d1,d2];rfl)
  rotate_left
  focus
   have d2:decide ((b:Int)<=57)=false:=decide_eq_false h2;have HV:Hid (v=false):=qh (by rw [HE.out,d1,d2];rfl)
  all_goals
   clear h1 h2
 rotate_left 2
 focus
  have d1:decide ((48:Int)<=(b:Int))=false:=decide_eq_false h1;have HV:Hid (v=false):=qh (by rw [HE.out,d1];rfl);clear h1
 rotate_left
 all_goals
  go_enter Tryz.func225,Tryz.ntmps225;go_wp2_with fail;go_ret
 . exact⟨by rw [HV.out];rfl,Below.refl _ _⟩
 . exact⟨by rw [HV.out];rfl,Below.refl _ _⟩
 . exact⟨by rw [HV.out];rfl,Below.refl _ _⟩
theorem Yq8 (b:Int) (w':World):(callFunc 225 #[.int .i64 b]).run Tryz.prog w'= .ok (.enter 225 #[.int .i64 b]) w':=by kernel_rfl
theorem Z77:∀ b:Fin 256,yk4 (b.val:Int) [97,98,99,100,101,102,103,104,105,106,107,108,109,110,111,112,113,114,115,116,117,118,119,120,121,122,65,66,67,68,69,70,71,72,73,74,75,76,77,78,79,80,81,82,83,84,85,86,87,88,89,90,48,49,50,51,52,53,54,55,56,57,95]=gW b.val:=by decide+kernel
theorem kO9 (b:Nat) (w:World) (hb:b<256):Calls Tryz.prog 226 #[.int .i64 (b:Int)] w λ e w'=>e= .returned (.bool (gW b))/\Below w.heap.size w w':=by
 have HE:Hid (yk4 (b:Int) [97,98,99,100,101,102,103,104,105,106,107,108,109,110,111,112,113,114,115,116,117,118,119,120,121,122,65,66,67,68,69,70,71,72,73,74,75,76,77,78,79,80,81,82,83,84,85,86,87,88,89,90,48,49,50,51,52,53,54,55,56,57,95]=gW b):=qh (Z77 ⟨b,hb⟩);have hw:IntKind.u8.wrap (b:Int)=(b:Int):=IntWalk.u8_in _ (by omega);have hw2:(b:Int)%256=(b:Int):=by omega
 go_enter Tryz.func226,Tryz.ntmps226;go_wp2_with fail;refine(Qs9 (b:Int) _ w (by decide) (by omega) (by omega)).mono ?_;rintro e w' ⟨rfl,rfl⟩;go_wp2_with fail;go_ret;exact⟨by rw [<-HE.out];rfl,Below.refl _ _⟩
theorem jD4 (b:Int) (w':World):(callFunc 226 #[.int .i64 b]).run Tryz.prog w'= .ok (.enter 226 #[.int .i64 b]) w':=by kernel_rfl
theorem Qv4 (b:Nat) (w:World) (hb:b<256):Calls Tryz.prog 227 #[.int .i64 (b:Int)] w λ e w'=>e= .returned (.bool (gS b))/\Below w.heap.size w w':=by
 obtain⟨v,hv⟩:∃ v,v=gS b:=⟨_,rfl⟩;rw [<-hv]
 have e:v=(decide ((9:Int)<=(b:Int))&&decide ((b:Int)<=13)||(b:Int)==32):=by
  rw [hv];unfold gS J03;rw [Bool.eq_iff_iff];simp;omega
 have HE:=qh e;clear hv e;by_cases h0:b<9
 . have d1:decide ((9:Int)<=(b:Int))=false:=decide_eq_false (by omega);have d2:decide ((b:Int)<=13)=true:=decide_eq_true (by omega);have d3:((b:Int)==32)=false:=beq_eq_false_iff_ne.2 (by omega);have HV:Hid (v=false):=qh (by rw [HE.out,d1,d2,d3];rfl);clear h0;go_enter Tryz.func227,Tryz.ntmps227;go_wp2_with fail;go_ret;exact⟨by rw [HV.out];rfl,Below.refl _ _⟩
 by_cases h1:b<=13
 . have d1:decide ((9:Int)<=(b:Int))=true:=decide_eq_true (by omega);have d2:decide ((b:Int)<=13)=true:=decide_eq_true (by omega);have d3:((b:Int)==32)=false:=beq_eq_false_iff_ne.2 (by omega);have HV:Hid (v=true):=qh (by rw [HE.out,d1,d2,d3];rfl);clear h0 h1;go_enter Tryz.func227,Tryz.ntmps227;go_wp2_with fail;go_ret;exact⟨by rw [HV.out];rfl,Below.refl _ _⟩
 by_cases h2:b=32
 . have d1:decide ((9:Int)<=(b:Int))=true:=decide_eq_true (by omega);have d2:decide ((b:Int)<=13)=false:=decide_eq_false (by omega);have d3:((b:Int)==32)=true:=beq_iff_eq.2 (by omega);have HV:Hid (v=true):=qh (by rw [HE.out,d1,d2,d3];rfl);clear h0 h1 h2;go_enter Tryz.func227,Tryz.ntmps227;go_wp2_with fail;go_ret;exact⟨by rw [HV.out];rfl,Below.refl _ _⟩
 by_cases h3:13<b/\¬b=32
 . have d1:decide ((9:Int)<=(b:Int))=true:=decide_eq_true (by omega);have d2:decide ((b:Int)<=13)=false:=decide_eq_false (by omega);have d3:((b:Int)==32)=false:=beq_eq_false_iff_ne.2 (by omega);have HV:Hid (v=false):=qh (by rw [HE.out,d1,d2,d3];rfl);clear h0 h1 h2 h3;go_enter Tryz.func227,Tryz.ntmps227;go_wp2_with fail;go_ret;exact⟨by rw [HV.out];rfl,Below.refl _ _⟩
 omega
theorem YE8 (b:Int) (w':World):(callFunc 227 #[.int .i64 b]).run Tryz.prog w'= .ok (.enter 227 #[.int .i64 b]) w':=by kernel_rfl
theorem kZ2 (b lo:Nat) (g:Nat) (w:World) (hb:b<256) (h:w.cell? ⟨g,0,none⟩=some (.int .i64 (lo:Int))):
 Calls Tryz.prog 213 #[.int .i64 (b:Int),.pointer (some ⟨g,0,none⟩)] w λ e w'=>e= .returned (.bool (J03 (lo:Int) (lo:Int) b))/\Below w.heap.size w w':=by
 obtain⟨v,hv⟩:∃ v,v=J03 (lo:Int) (lo:Int) b:=⟨_,rfl⟩;rw [<-hv]
 have e:((b:Int)==(lo:Int))=v:=by
  rw [hv];unfold J03;rw [Bool.eq_iff_iff];simp;omega
 have HE:=qh e;clear hv e;go_enter Tryz.func213,Tryz.ntmps213;go_wp2_with fail;go_ret;exact⟨by rw [HE.out];rfl,Below.refl _ _⟩
theorem zM6 (g:Nat) (b:Int) (w':World):(callFunc 213 #[.int .i64 b,.pointer (some ⟨g,0,none⟩)]).run Tryz.prog w'= .ok (.enter 213 #[.int .i64 b,.pointer (some ⟨g,0,none⟩)]) w':=by kernel_rfl
theorem z96 (b:Nat) (g gn:Nat) (f:Nat->Bool) (iv:Bool) (w:World) (hb:b<256) (h:BoR w g 256 f) (h2:w.cell? ⟨gn,0,none⟩=some (.bool iv)):
 Calls Tryz.prog 224 #[.int .i64 (b:Int),.pointer (some ⟨g,0,none⟩),.pointer (some ⟨gn,0,none⟩)] w λ e w'=>e= .returned (.bool (f b !=iv))/\Below w.heap.size w w':=by
 have y0:=h.cell b hb;have i1:(b:Int)<256:=by omega
 have i2:(0:Int)<=(b:Int):=by omega
 obtain⟨v,hv⟩:∃ v,v=f b:=⟨_,rfl⟩;rw [<-hv] at y0⊢;clear h hv;go_enter Tryz.func224,Tryz.ntmps224;go_wp2_with fail;go_quiet (fail)
 go_wp2_with fail;go_ret;exact⟨rfl,below_drewN (Below.refl _ _) _⟩
theorem Yt1 (g gn:Nat) (b:Int) (w':World):(callFunc 224 #[.int .i64 b,.pointer (some ⟨g,0,none⟩),.pointer (some ⟨gn,0,none⟩)]).run Tryz.prog w'= .ok (.enter 224 #[.int .i64 b,.pointer (some ⟨g,0,none⟩),.pointer (some ⟨gn,0,none⟩)]) w':=by kernel_rfl
end Go.Proofs.YtngepacmgabmaaaGreatDoor
