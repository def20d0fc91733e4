/- Sets of bytes, plainly: a byte put in, t; Walks: rex.Range, wickref.Where: sets of .. -/
import Derived.Test.YtngepacmgabmaaaGreatDoorGm
import Derived.Laws.Bits64b
namespace Go.Proofs.YtngepacmgabmaaaGreatDoor
open Go.RowKit
set_option linter.unusedVariables false
set_option linter.unusedSimpArgs false
theorem QD6 (s:Q4) (b:Nat):k32 s b=(s.word (b/64)).testBit (b%64):=by
 unfold k32;rw [Nat.testBit_eq_decide_div_mod_eq]
def Q4.or (s t:Q4):Q4:=⟨s.a|||t.a,s.b|||t.b,s.c|||t.c,s.d|||t.d⟩
theorem Q4.or_word (s t:Q4) (k:Nat):(s.or t).word k=s.word k|||t.word k:=by
 unfold Q4.word Q4.or;split
 . rfl
 . split
   . rfl
   . split<;>rfl
theorem JY1 (s t:Q4) (b:Nat):k32 (s.or t) b=(k32 s b||k32 t b):=by
 rw [QD6,QD6,QD6,Q4.or_word,Nat.testBit_or]
theorem Xp2 {a b:Nat} (ha:a<18446744073709551616) (hb:b<18446744073709551616):a|||b<18446744073709551616:=Nat.or_lt_two_pow (n:=64) (by omega) (by omega)
theorem Q4.or_ok {s t:Q4} (hs:s.ok) (ht:t.ok):(s.or t).ok:=
 ⟨Xp2 hs.1 ht.1,Xp2 hs.2.1 ht.2.1,Xp2 hs.2.2.1 ht.2.2.1,Xp2 hs.2.2.2 ht.2.2.2⟩
def Q4.setW (s:Q4) (k v:Nat):Q4:=if k=0 then ⟨v,s.b,s.c,s.d⟩ else if k=1 then ⟨s.a,v,s.c,s.d⟩ else if k=2 then ⟨s.a,s.b,v,s.d⟩ else ⟨s.a,s.b,s.c,v⟩
def Q4.put (s:Q4) (b:Nat):Q4:=s.setW (b/64) (s.word (b/64)|||2^(b%64))
theorem Q4.setW_word (s:Q4) {k j:Nat} (v:Nat) (hk:k<4) (hj:j<4):(s.setW k v).word j=if j=k then v else s.word j:=by
 obtain rfl|rfl|rfl|rfl:k=0\/k=1\/k=2\/k=3:=by omega
 all_goals obtain rfl|rfl|rfl|rfl:j=0\/j=1\/j=2\/j=3:=by omega
 all_goals rfl
theorem XM3 (s:Q4) {b j:Nat} (hb:b<256) (hj:j<256):k32 (s.put b) j=(decide (j=b)||k32 s j):=by
 rw [QD6,QD6];unfold Q4.put;rw [Q4.setW_word s _ (by omega) (by omega)];by_cases e:j/64=b/64
 . rw [if_pos e,Nat.testBit_or,Nat.testBit_two_pow,<-e];rw [Bool.or_comm];congr 1;rw [Bool.eq_iff_iff,decide_eq_true_eq,decide_eq_true_eq];omega
 . rw [if_neg e,decide_eq_false (show ¬j=b from λ h=>e (by rw [h])),Bool.false_or]
theorem Q4.word_lt {s:Q4} (h:s.ok) (k:Nat):s.word k<18446744073709551616:=by
 unfold Q4.word;split
 . exact h.1
 . split
   . exact h.2.1
   . split
     . exact h.2.2.1
     . exact h.2.2.2
theorem ZU5 (b:Nat):2^(b%64)<18446744073709551616:=by
 have:2^(b%64)<2^64:=Nat.pow_lt_pow_right (by omega) (by omega);omega
theorem Q4.setW_ok {s:Q4} (h:s.ok) (k:Nat) {v:Nat} (hv:v<18446744073709551616):(s.setW k v).ok:=by
 unfold Q4.setW;split
 . exact⟨hv,h.2.1,h.2.2.1,h.2.2.2⟩
 . split
   . exact⟨h.1,hv,h.2.2.1,h.2.2.2⟩
   . split
     . exact⟨h.1,h.2.1,hv,h.2.2.2⟩
     . exact⟨h.1,h.2.1,h.2.2.1,hv⟩
theorem Q4.put_ok {s:Q4} (h:s.ok) (b:Nat):(s.put b).ok:=Q4.setW_ok h _ (Xp2 (Q4.word_lt h _) (ZU5 b))
theorem K72 {a b:Nat} (ha:a<18446744073709551616) (hb:b<18446744073709551616) (h:∀ i,i<64->a.testBit i=b.testBit i):a=b:=by
 apply Nat.eq_of_testBit_eq;intro i;by_cases hi:i<64
 . exact h i hi
 . have h1:(2:Nat)^64<=2^i:=Nat.pow_le_pow_right (by omega) (by omega);rw [Nat.testBit_lt_two_pow (by omega),Nat.testBit_lt_two_pow (by omega)]
theorem YV4 {s t:Q4} (hs:s.ok) (ht:t.ok) (h:∀ b,b<256->k32 s b=k32 t b):s=t:=by
 have key:∀ k,k<4->s.word k=t.word k:=λ k hk=>K72 (Q4.word_lt hs k) (Q4.word_lt ht k) λ i hi=>by
  have:=h (k*64+i) (by omega);rw [QD6,QD6,show (k*64+i)/64=k by omega,show (k*64+i)%64=i by omega] at this;exact this
 obtain⟨a,b,c,d⟩:=s;obtain⟨a',b',c',d'⟩:=t;have h0:a=a':=key 0 (by omega);have h1:b=b':=key 1 (by omega);have h2:c=c':=key 2 (by omega);have h3:d=d':=key 3 (by omega);subst h0;subst h1;subst h2;subst h3;rfl
theorem jR3 (b:Nat):k32 ⟨0,0,0,0⟩ b=false:=by
 rw [QD6];have:(⟨0,0,0,0⟩:Q4).word (b/64)=0:=by unfold Q4.word;split;rfl;split;rfl;split<;>rfl
 rw [this,Nat.zero_testBit]
def J03 (lo hi:Int) (b:Nat):Bool:=decide (lo<=(b:Int)/\(b:Int)<=hi)
def SetOf (s:Q4) (f:Nat->Bool):Prop:=s.ok/\∀ b,b<256->k32 s b=f b
theorem SetOf.same {s t:Q4} {f g:Nat->Bool} (h:SetOf s f) (h':SetOf t g) (e:∀ b,b<256->f b=g b):s=t:=
 YV4 h.1 h'.1 λ b hb=>by rw [h.2 b hb,h'.2 b hb,e b hb]
def SBlk (w:World) (g:Nat) (q:Q4):Prop:=Blk w g 122 #[.int .u64 (q.a:Int),.int .u64 (q.b:Int),.int .u64 (q.c:Int),.int .u64 (q.d:Int)]
theorem SBlk.cell {w:World} {g:Nat} {q:Q4} (h:SBlk w g q) {k:Nat} (hk:k<4):w.cell? ⟨g,k,none⟩=some (.int .u64 (q.word k:Int)):=by
 rw [Blk.cell h];obtain rfl|rfl|rfl|rfl:k=0\/k=1\/k=2\/k=3:=by omega
 all_goals rfl
theorem SBlk.setW {w:World} {g:Nat} {q:Q4} (h:SBlk w g q) {k:Nat} (hk:k<4) (v:Nat):SBlk (w.setCell ⟨g,k,none⟩ (.int .u64 (v:Int))) g (q.setW k v):=by
 have:=Blk.set_ h k (.int .u64 (v:Int));obtain rfl|rfl|rfl|rfl:k=0\/k=1\/k=2\/k=3:=by omega
 all_goals exact this
theorem SBlk.drew {w:World} {g:Nat} {q:Q4} (h:SBlk w g q):SBlk w.drew g q:=h
theorem SBlk.new (w:World):SBlk (w.alloc (.cells #[.int .u64 0,.int .u64 0,.int .u64 0,.int .u64 0] 122)) w.heap.size ⟨0,0,0,0⟩:=Blk.new _ _ _
def Qj7 (q:Q4):Value:= .agg #[.int .u64 (q.a:Int),.int .u64 (q.b:Int),.int .u64 (q.c:Int),.int .u64 (q.d:Int)]
structure Sb2 (w wr:World) (q:Q4):Prop where
 res:SBlk wr w.heap.size ⟨0,0,0,0⟩
 set:SBlk wr (w.heap.size+1) q
 be:Below w.heap.size w wr
theorem Sb2.start (w:World):Sb2 w ((w.alloc (.cells #[.int .u64 0,.int .u64 0,.int .u64 0,.int .u64 0] 122)).alloc (.cells #[.int .u64 0,.int .u64 0,.int .u64 0,.int .u64 0] 122)) ⟨0,0,0,0⟩:=by
 refine⟨Blk.alloc (SBlk.new w) _,?_,((Below.refl _ _).alloc (Nat.le_refl _) _).alloc (by simp) _⟩;have:=SBlk.new (w.alloc (.cells #[.int .u64 0,.int .u64 0,.int .u64 0,.int .u64 0] 122))
 simpa using this
theorem Sb2.setW {w wr:World} {q:Q4} (h:Sb2 w wr q) {k:Nat} (hk:k<4) (v:Nat):Sb2 w (wr.setCell ⟨w.heap.size+1,k,none⟩ (.int .u64 (v:Int))) (q.setW k v):=
 ⟨Blk.far h.res (by dsimp only;omega) _,h.set.setW hk v,h.be.setCell (p:=⟨w.heap.size+1,k,none⟩) (by dsimp only;omega) _⟩
theorem Sb2.drew {w wr:World} {q:Q4} (h:Sb2 w wr q):Sb2 w wr.drew q:=⟨h.res.drew,h.set.drew,h.be.drew⟩
theorem Sb2.kept {w wr w':World} {q:Q4} (h:Sb2 w wr q) (hb:Below wr.heap.size wr w'):Sb2 w w' q:=
 ⟨Blk.below h.res hb (Blk.lt h.res),Blk.below h.set hb (Blk.lt h.set),h.be.trans (hb.mono h.be.size)⟩
theorem Sb2.put_ {w wr:World} {q:Q4} (h:Sb2 w wr q):
 ∃ wz,wz=(((wr.setCell ⟨w.heap.size,0,none⟩ (.int .u64 (q.a:Int))).setCell ⟨w.heap.size,1,none⟩ (.int .u64 (q.b:Int))).setCell ⟨w.heap.size,2,none⟩ (.int .u64 (q.c:Int))).setCell ⟨w.heap.size,3,none⟩ (.int .u64 (q.d:Int))/\Below w.heap.size w wz/\
  wz.cell? ⟨w.heap.size,0,none⟩=some (.int .u64 (q.a:Int))/\wz.cell? ⟨w.heap.size,1,none⟩=some (.int .u64 (q.b:Int))/\wz.cell? ⟨w.heap.size,2,none⟩=some (.int .u64 (q.c:Int))/\wz.cell? ⟨w.heap.size,3,none⟩=some (.int .u64 (q.d:Int)):=by
 have h1:SBlk _ _ _:=h.res.setW (k:=0) (by omega) q.a;have h2:SBlk _ _ _:=h1.setW (k:=1) (by omega) q.b;have h3:SBlk _ _ _:=h2.setW (k:=2) (by omega) q.c;have h4:SBlk _ _ _:=h3.setW (k:=3) (by omega) q.d;exact⟨_,rfl,(((h.be.setCell (p:=⟨w.heap.size,0,none⟩) (Nat.le_refl _) _).setCell (p:=⟨w.heap.size,1,none⟩) (Nat.le_refl _) _).setCell (p:=⟨w.heap.size,2,none⟩) (Nat.le_refl _) _).setCell (p:=⟨w.heap.size,3,none⟩) (Nat.le_refl _) _,h4.cell (k:=0) (by omega),h4.cell (k:=1) (by omega),h4.cell (k:=2) (by omega),h4.cell (k:=3) (by omega)⟩
def Xs8 (lo b:Int) (j:Nat):Bool:=decide (lo<=(j:Int)/\(j:Int)<b)
theorem Yu6 (lo:Int):SetOf ⟨0,0,0,0⟩ (Xs8 lo lo):=⟨⟨by decide,by decide,by decide,by decide⟩,λ b _=>by
 rw [jR3];unfold Xs8;exact(decide_eq_false (by omega)).symm⟩
theorem yu6 {q:Q4} {lo:Int} {b:Nat} (h:SetOf q (Xs8 lo b)) (hb:b<256) (hlo:lo<=b):SetOf (q.put b) (Xs8 lo ((b:Int)+1)):=
 ⟨Q4.put_ok h.1 b,λ j hj=>by
  rw [XM3 q hb hj,h.2 j hj];unfold Xs8;rw [Bool.eq_iff_iff,Bool.or_eq_true,decide_eq_true_eq,decide_eq_true_eq,decide_eq_true_eq];omega⟩
theorem kb4:∀ b:UInt8,bits .and .i64 (b.toNat:Int) 63=((b.toNat%64:Nat):Int):=k73 (by decide+kernel)
theorem Q17 {b:Nat} (hb:b<=255):bits .and .i64 (b:Int) 63=((b%64:Nat):Int):=by
 have:=kb4 (UInt8.ofNat b);rwa [Q76 b (by omega)] at this
theorem Xv8 (x b:Nat) (hx:x<18446744073709551616):bits .or .u64 (x:Int) (IntKind.u64.wrap (2^(b%64)))=((x|||2^(b%64):Nat):Int):=by
 have h:=ZU5 b;have e:((2:Int)^(b%64))=((2^(b%64):Nat):Int):=by simp
 have e2:IntKind.u64.wrap (2^(b%64))=((2^(b%64):Nat):Int):=by
  rw [e,IntKind.wrap_u64];generalize 2^(b%64)=m at*;omega
 rw [e2,bits_or_u64_nat _ _ hx h]
def XC1 (lo hi:Int) (w:World) (e:Ending) (w':World):Prop:=∃ q,e= .returned (Qj7 q)/\SetOf q (Xs8 lo (hi+1))/\Below w.heap.size w w'
set_option maxHeartbeats 2000000 in
theorem j12 (lo hi:Nat) (hh:hi<=255) (w:World) (h:lo<=hi+1):
 Calls Tryz.prog 143 #[.int .i64 (lo:Int),.int .i64 (hi:Int)] w (XC1 lo hi w):=by
 have HS:=qh (Sb2.start w);go_enter Tryz.func143,Tryz.ntmps143;go_wp2_with fail;go_loopw [6] (λ u wr=>∃ (b:Nat) (q:Q4),u= .int .i64 (b:Int)/\lo<=b/\b<=hi+1/\Sb2 w wr q/\Hid (SetOf q (Xs8 lo b))) (λ u _=>hi+1-(intOf u).toNat)
 case atStart=>exact⟨lo,_,rfl,Nat.le_refl _,h,HS.out,Yu6 _⟩
 case round=>
  obtain⟨b,q,rfl,hlo,hb,hS,HQ⟩:=hrel;by_cases hlt:b<=hi
  . have i1:(b:Int)<=(hi:Int):=(by omega);have HN:Hid (SetOf (q.put b) (Xs8 lo ((b:Int)+1))):=yu6 HQ.out (by omega) (by omega);have h63:=Q17 (b:=b) (by omega);have hq4:b/64<4:=(by omega);have HN2:=qh (hS.setW hq4 (q.word (b/64)|||2^(b%64)));have y0:=hS.set.cell hq4;have y1:wr.frozen? ⟨w.heap.size+1,b/64,none⟩=false:=Blk.frozen hS.set _;have HS2:=qh hS;clear hS;have HV:=qh (Xv8 (q.word (b/64)) b (Q4.word_lt HQ.out.1 _));rcases yA6 (b:=b) (by omega) with⟨h6,e6⟩|⟨h6,e6⟩|⟨h6,e6⟩|⟨h6,e6⟩
    all_goals
     have HP:Hid (q.put b=q.setW (b/64) (q.word (b/64)|||2^(b%64))):=rfl;rw [h6] at y0 y1 HN2 HV HP;clear h6 hq4;go_wp2_with fail;go_region
     all_goals go_wp2_with fail
     all_goals go_roundw
     case rel=>exact⟨b+1,q.put b,by go_num,by omega,by omega,by rw [HV.out,HP.out];exact HN2.out.drew,by rw [Int.natCast_succ];exact HN⟩
     case measure=>simp [intOf];omega
  . obtain rfl:b=hi+1:=(by omega);have i1:¬((hi:Int)+1)<=(hi:Int):=(by omega);obtain⟨y0,y1,y2,y3⟩:=Blk.c4 hS.set;obtain⟨r0,r1,r2,r3⟩:=Blk.z4 hS.res;obtain⟨f0,f1,f2,f3⟩:=Blk.f4 hS.res;have HS:=qh hS;clear hS hlt;go_wp2_with fail;obtain⟨wz,hwz,hz,z0,z1,z2,z3⟩:=HS.out.put_;rw [<-hwz];refine bodyPost_ret (v:=Qj7 q) (by simp [results,Tryz.results143,go_sem,z0,z1,z2,z3,Qj7]) rfl ⟨q,rfl,by have:=HQ.out;rwa [Int.natCast_succ] at this,hz⟩
def ZC2 (f:Nat->Bool) (k:Nat) (j:Nat):Bool:=decide (j<k)&&f j
theorem jw0 (f:Nat->Bool):SetOf ⟨0,0,0,0⟩ (ZC2 f 0):=⟨⟨by decide,by decide,by decide,by decide⟩,λ b _=>by rw [jR3];unfold ZC2;simp⟩
theorem zj9 {q:Q4} {f:Nat->Bool} {k:Nat} (h:SetOf q (ZC2 f k)) (hf:f k=false):SetOf q (ZC2 f (k+1)):=⟨h.1,λ j hj=>by
 rw [h.2 j hj];unfold ZC2;by_cases e:j=k
 . subst e;rw [hf,Bool.and_false,Bool.and_false]
 . congr 1;rw [Bool.eq_iff_iff,decide_eq_true_eq,decide_eq_true_eq];omega⟩
theorem kL9 {q:Q4} {f:Nat->Bool} {k:Nat} (h:SetOf q (ZC2 f k)) (hf:f k=true) (hk:k<256):SetOf (q.put k) (ZC2 f (k+1)):=⟨Q4.put_ok h.1 k,λ j hj=>by
 rw [XM3 q hk hj,h.2 j hj];unfold ZC2;by_cases e:j=k
 . subst e;rw [hf];simp
 . rw [decide_eq_false e,Bool.false_or];congr 1;rw [Bool.eq_iff_iff,decide_eq_true_eq,decide_eq_true_eq];omega⟩
def QT2 (f:Nat->Bool) (w:World) (e:Ending) (w':World):Prop:=∃ q,e= .returned (Qj7 q)/\SetOf q f/\Below w.heap.size w w'
set_option maxRecDepth 100000 in
set_option maxHeartbeats 400000 in
theorem yc4 (F:FuncId) (p:Addr) (f:Nat->Bool) (w:World) (hcf:∀ (b:Int) (w':World),(callFunc F #[.int .i64 b,.pointer (some p)]).run Tryz.prog w'= .ok (.enter F #[.int .i64 b,.pointer (some p)]) w')
 (HC:∀ (b:Nat) (w':World),b<256->Below w.heap.size w w'->Calls Tryz.prog F #[.int .i64 (b:Int),.pointer (some p)] w' λ e w''=>e= .returned (.bool (f b))/\Below w'.heap.size w' w''):
 Calls Tryz.prog 124 #[.func (.func F) #[] #[.pointer (some p)]] w (QT2 f w):=by
 have HS:=qh (Sb2.start w);have HC:=qh HC;go_enter Tryz.func124,Tryz.ntmps124;go_wp2_with fail;go_loopw [4] (λ u wr=>∃ (b:Nat) (q:Q4),u= .int .i64 (b:Int)/\b<=256/\Sb2 w wr q/\Hid (SetOf q (ZC2 f b))) (λ u _=>256-(intOf u).toNat)
 case atStart=>exact⟨0,_,rfl,by omega,HS.out,jw0 _⟩
 case round=>
  obtain⟨b,q,rfl,hb,hS,HQ⟩:=hrel;by_cases hlt:b<256
  . have i1:(b:Int)<256:=(by omega);have CB:=qh (HC.out b wr hlt hS.be);have HSr:=qh hS;clear hS;go_wp2_with fail;refine CB.out.mono ?_;rintro e w1 ⟨rfl,b1⟩;have hS:=HSr.out.kept b1;have HB1:=qh hS.be;clear b1 CB HSr;cases hv:f b with
    |false=>
     have HN:Hid (SetOf q (ZC2 f (b+1))):=zj9 HQ.out hv;have HS2:=qh hS;clear hS hv;go_wp2_with fail;go_roundw
     case rel=>exact⟨b+1,q,by go_num,by omega,HS2.out,HN⟩
     case measure=>simp [intOf];omega
    |true=>
     have HN:Hid (SetOf (q.put b) (ZC2 f (b+1))):=kL9 HQ.out hv hlt;have hq4:b/64<4:=(by omega);have HN2:=qh (hS.setW hq4 (q.word (b/64)|||2^(b%64)));have y0:=hS.set.cell hq4;have y1:w1.frozen? ⟨w.heap.size+1,b/64,none⟩=false:=Blk.frozen hS.set _;have HV:=qh (Xv8 (q.word (b/64)) b (Q4.word_lt HQ.out.1 _));clear hS hv;rcases yA6 (b:=b) (by omega) with⟨h6,e6⟩|⟨h6,e6⟩|⟨h6,e6⟩|⟨h6,e6⟩
     all_goals
      have HP:Hid (q.put b=q.setW (b/64) (q.word (b/64)|||2^(b%64))):=rfl;rw [h6] at y0 y1 HN2 HV HP;clear h6 hq4;go_wp2_with fail;go_region
      all_goals go_wp2_with fail
      all_goals go_roundw
      case rel=>exact⟨b+1,q.put b,by go_num,by omega,by rw [HV.out,HP.out];exact HN2.out.drew,HN⟩
      case measure=>simp [intOf];omega
  . obtain rfl:b=256:=(by omega);obtain⟨y0,y1,y2,y3⟩:=Blk.c4 hS.set;obtain⟨r0,r1,r2,r3⟩:=Blk.z4 hS.res;obtain⟨f0,f1,f2,f3⟩:=Blk.f4 hS.res;have HS:=qh hS;clear hS hlt;go_wp2_with fail;obtain⟨wz,hwz,hz,z0,z1,z2,z3⟩:=HS.out.put_;rw [<-hwz];refine bodyPost_ret (v:=Qj7 q) (by simp [results,Tryz.results124,go_sem,z0,z1,z2,z3,Qj7]) rfl ⟨q,rfl,⟨HQ.out.1,λ j hj=>by rw [HQ.out.2 j hj];unfold ZC2;rw [decide_eq_true hj,Bool.true_and]⟩,hz⟩
section
structure Sx where
 (p:Nat) (e:Int)
def nx (s:ByteArray) (x:Sx):Int:=if h:x.e=0/\x.p<s.size then (s[x.p].toNat:Int) else-1
def Sx.fl (x:Sx) (c:Int):Sx:=if x.e=0 then ⟨x.p,c⟩ else x
def Sx.up (x:Sx):Sx:=⟨x.p+1,x.e⟩
theorem Kj4 (s:ByteArray) (x:Sx): -1<=nx s x/\nx s x<=255:=by
 unfold nx;split
 . have:=s[x.p].toNat_lt;omega
 . omega
theorem Jo0 {s:ByteArray} {x:Sx} (h:0<=nx s x):x.e=0/\x.p<s.size:=by
 unfold nx at h;split at h
 . assumption
 . omega
theorem KA1 {s:ByteArray} {x:Sx} (h0:x.e=0) (h:x.p<s.size):nx s x=(s[x.p].toNat:Int):=by unfold nx;rw [dif_pos ⟨h0,h⟩]
theorem Kq7 {s:ByteArray} {x:Sx} (h:¬(x.e=0/\x.p<s.size)):nx s x= -1:=by unfold nx;rw [dif_neg h]
theorem kb2 {s:ByteArray} {x:Sx} (h:¬x.e=0):nx s x= -1:=Kq7 λ k=>h k.1
def sgLp:List UInt8:= [40,41,91,93,124,42,43,63,46,94,36,45,92]
def hxL:List UInt8:= [48,49,50,51,52,53,54,55,56,57,97,98,99,100,101,102]
def sgB (b:Int):Bool:=decide (0<=Lib.indexByte sgLp b.toNat.toUInt8)
def hxI (b:Int):Int:=Lib.indexByte hxL b.toNat.toUInt8
def dg (s:ByteArray) (x:Sx):Int×Sx:=
 if nx s x<0 then (0,x.fl 3) else if hxI (nx s x)<0 then (0,x.fl 3) else (hxI (nx s x),x.up)
def ch (s:ByteArray) (x:Sx):Int×Sx:=
 if nx s x=92 then
  if nx s x.up=110 then (10,x.up.up)
  else if nx s x.up=116 then (9,x.up.up)
  else if nx s x.up=114 then (13,x.up.up)
  else if nx s x.up=120 then ((dg s x.up.up).1*16+(dg s (dg s x.up.up).2).1,(dg s (dg s x.up.up).2).2)
  else if 0<=nx s x.up/\sgB (nx s x.up)=true then (nx s x.up,x.up.up) else (0,x.up.fl 3)
 else if nx s x<33\/126<nx s x\/sgB (nx s x)=true then (0,x.fl 3) else (nx s x,x.up)
def gDp (b:Nat):Bool:=J03 48 57 b
def gW (b:Nat):Bool:=J03 97 122 b||J03 65 90 b||(J03 48 57 b||J03 95 95 b)
def gS (b:Nat):Bool:=J03 9 13 b||J03 32 32 b
def gr (s:ByteArray) (x:Sx):Option (Nat->Bool):=
 if nx s x=92 then
  if nx s x.up=100 then some gDp else if nx s x.up=119 then some gW else if nx s x.up=115 then some gS else none
 else none
theorem XT8 (f:Nat->Bool):∃ q,SetOf q f:=by
 have key:∀ k,k<=256->∃ q,SetOf q (ZC2 f k):=by
  intro k
  induction k with
  |zero=>intro _;exact⟨_,jw0 f⟩
  |succ k ih=>
   intro hk;obtain⟨q,hq⟩:=ih (by omega);cases hf:f k with
   |false=>exact⟨q,zj9 hq hf⟩
   |true=>exact⟨_,kL9 hq hf (by omega)⟩
 obtain⟨q,hq⟩:=key 256 (Nat.le_refl _);exact⟨q,hq.1,λ b hb=>by rw [hq.2 b hb];unfold ZC2;rw [decide_eq_true hb,Bool.true_and]⟩
noncomputable def mkQ (f:Nat->Bool):Q4:=Classical.choose (XT8 f)
theorem QP7 (f:Nat->Bool):SetOf (mkQ f) f:=Classical.choose_spec (XT8 f)
theorem ZB8 {q:Q4} {f g:Nat->Bool} (h:SetOf q g) (e:∀ b,b<256->f b=g b):q=mkQ f:=h.same (QP7 f) λ b hb=>(e b hb).symm
def clL (s:ByteArray):Nat->Bool->(Nat->Bool)->Sx->(Nat->Bool)×Sx
 |0,_,f,x=>(f,x)
 |m+1,one,f,x=>
  if x.e=0/\(one=true\/¬nx s x=93) then
   match gr s x with
   |some g=>clL s m false (λ b=>f b||g b) x.up.up
   |none=>
    if nx s (ch s x).2=45 then
     clL s m false (λ b=>f b||J03 (ch s x).1 (ch s (ch s x).2.up).1 b) (if (ch s (ch s x).2.up).1<(ch s x).1/\(ch s (ch s x).2.up).2.e=0 then ⟨(ch s x).2.p+1,3⟩ else (ch s (ch s x).2.up).2)
    else clL s m false (λ b=>f b||J03 (ch s x).1 (ch s x).1 b) (ch s x).2
  else (f,x)
noncomputable def cls (s:ByteArray) (x:Sx):Q4×Sx:=
 let r:=clL s (s.size+1) true (λ _=>false) (if nx s x=94 then x.up else x)
 let q:=mkQ (if nx s x=94 then λ b=> !r.1 b else r.1)
 let y:=if q.zero=true then r.2.fl 3 else r.2
 (q,if nx s y=93 then y.up else y)
def zq:Q4:=⟨0,0,0,0⟩
def Y41 (k:Int):Rx:= .mk k zq []
def jG1 (k:Int) (a b:Rx):Rx:= .mk k zq [a,b]
def j41 (a:Rx):Rx:= .mk 6 zq [a]
def kZ7 (q:Q4):Rx:= .mk 3 q []
mutual
def szR:Rx->Nat
 | .mk _ _ ks=>1+szL ks
def szL:List Rx->Nat
 | []=>0
 |k::ks=>szR k+szL ks
end
def JP5 (t:Rx):Rx:=if szR t<=80 then t else Y41 2
def lpP (s:ByteArray):Nat->Rx->Sx->Rx×Sx
 |0,t,x=>(t,x)
 |m+1,t,x=>
  if nx s x=42 then lpP s m (j41 t) x.up
  else if nx s x=63 then lpP s m (jG1 5 t (Y41 2)) x.up
  else if nx s x=43 then lpP s m (jG1 4 t (j41 (JP5 t))) x.up
  else (t,x)
def enB (s:ByteArray) (x:Sx):Bool:=decide (nx s x<0\/nx s x=124\/nx s x=41)
section
variable (s:ByteArray) (A:Sx->Rx×Sx)
def lpR:Nat->Rx->Sx->Rx×Sx
 |0,t,x=>(t,x)
 |m+1,t,x=>if enB s x=true then (t,x) else lpR m (jG1 4 t (A x).1) (A x).2
def lpA:Nat->Rx->Sx->Rx×Sx
 |0,t,x=>(t,x)
 |m+1,t,x=>if nx s x=124 then lpA m (jG1 5 t (A x.up).1) (A x.up).2 else (t,x)
def pcF (x:Sx):Rx×Sx:=lpP s (s.size+1) (A x).1 (A x).2
def rwF (x:Sx):Rx×Sx:=if enB s x=true then (Y41 2,x) else lpR s A (s.size+1) (A x).1 (A x).2
def atF (x:Sx):Rx×Sx:=lpA s A (s.size+1) (A x).1 (A x).2
end
def alF (s:ByteArray) (A:Sx->Rx×Sx):Sx->Rx×Sx:=atF s (rwF s (pcF s A))
noncomputable def amF (s:ByteArray):Nat->Sx->Rx×Sx
 |n,x=>
  if nx s x=40 then
   match n with
   |0=>(Y41 0,x.fl 11)
   |n+1=>
    ((alF s (amF s n) x.up).1,if nx s (alF s (amF s n) x.up).2=41 then (alF s (amF s n) x.up).2.up else (alF s (amF s n) x.up).2.fl 3)
  else if nx s x=46 then (kZ7 (mkQ λ b=>decide (¬b=10)),x.up)
  else if nx s x=94 then (Y41 7,x.up)
  else if nx s x=36 then (Y41 8,x.up)
  else if nx s x=91 then (kZ7 (cls s x.up).1,(cls s x.up).2)
  else match gr s x with
   |some g=>(kZ7 (mkQ g),x.up.up)
   |none=>(kZ7 (mkQ (J03 (ch s x).1 (ch s x).1)),(ch s x).2)
structure Go1 (s:ByteArray) (x y:Sx):Prop where
 hi:y.p<=s.size
 lo:x.p<=y.p
 ok:y.e=0->x.p<y.p
theorem ZG2 (x:Sx) (c:Int):(x.fl c).p=x.p:=by unfold Sx.fl;split<;>rfl
theorem fl_e {x:Sx} {c:Int} (hc:¬c=0):¬(x.fl c).e=0:=by
 unfold Sx.fl;split
 . exact hc
 . assumption
theorem yZ8 {s:ByteArray} {x:Sx} {c:Int} (hc:¬c=0) (h:x.p<=s.size):Go1 s x (x.fl c):=⟨by rw [ZG2];exact h,by rw [ZG2];exact Nat.le_refl _,λ k=>absurd k (fl_e hc)⟩
theorem kx8 {s:ByteArray} {x:Sx} (h:0<=nx s x):Go1 s x x.up:=⟨by have:=(Jo0 h).2;show x.p+1<=_;omega,by show x.p<=x.p+1;omega,λ _=>by show x.p<x.p+1;omega⟩
theorem Go1.tr {s:ByteArray} {x y z:Sx} (h:Go1 s x y) (k:Go1 s y z):Go1 s x z:=⟨k.hi,Nat.le_trans h.lo k.lo,λ e=>Nat.lt_of_le_of_lt h.lo (k.ok e)⟩
theorem kW0 (s:ByteArray) (x:Sx) (h:x.p<=s.size):Go1 s x (dg s x).2:=by
 unfold dg;split
 . exact yZ8 (by decide) h
 . split
   . exact yZ8 (by decide) h
   . exact kx8 (by omega)
theorem Q44 (s:ByteArray) (x:Sx) (h:x.p<=s.size):Go1 s x (ch s x).2:=by
 unfold ch;split
 . rename_i h92
   have g1:=kx8 (s:=s) (x:=x) (by omega);split
   . exact g1.tr (kx8 (by omega))
   . split
     . exact g1.tr (kx8 (by omega))
     . split
       . exact g1.tr (kx8 (by omega))
       . split
         . have g2:=g1.tr (kx8 (by omega));have g3:=kW0 s x.up.up g2.hi;exact(g2.tr g3).tr (kW0 s _ g3.hi)
         . split
           . rename_i hh;exact g1.tr (kx8 hh.1)
           . exact g1.tr (yZ8 (by decide) g1.hi)
 . split
   . exact yZ8 (by decide) h
   . rename_i hh
     exact kx8 (by omega)
theorem yP3 {s:ByteArray} {x:Sx} {g:Nat->Bool} (h:gr s x=some g):Go1 s x x.up.up:=by
 unfold gr at h;split at h
 . have g1:=kx8 (s:=s) (x:=x) (by omega);split at h
   . exact g1.tr (kx8 (by omega))
   . split at h
     . exact g1.tr (kx8 (by omega))
     . split at h
       . exact g1.tr (kx8 (by omega))
       . cases h
 . cases h
end
abbrev KeptOff (w w':World) (g:Nat):Prop:=w.grownBy w' (some g)
section
variable {w w1 w2 w':World} {g:Nat}
theorem KeptOff.refl:KeptOff w w g:=World.grownBy.refl _ _
theorem KeptOff.set_ (h:KeptOff w w' g) (i:Nat) (u:Value):KeptOff w (w'.setCell ⟨g,i,none⟩ u) g:=
 ⟨h.os,h.tape,h.output,by simpa [World.setCell] using h.size,λ k hk hne=>(Below.heap_setCell _ _ _ _ (by intro e;exact hne (by rw [e]))).trans (h.block k hk hne)⟩
theorem KeptOff.alloc (h:KeptOff w w' g) (o:Obj):KeptOff w (w'.alloc o) g:=
 ⟨h.os,h.tape,h.output,by have:=h.size;simp;omega,λ k hk hne=>(Below.heap_alloc _ _ _ (Nat.lt_of_lt_of_le hk h.size)).trans (h.block k hk hne)⟩
theorem KeptOff.drew (h:KeptOff w w' g):KeptOff w w'.drew g:=⟨h.os,h.tape,h.output,h.size,h.block⟩
theorem KeptOff.drewN (h:KeptOff w w' g) (n:Nat):KeptOff w (w'.drewN n) g:=⟨h.os,h.tape,h.output,h.size,h.block⟩
theorem KeptOff.tr (h:KeptOff w w1 g) (k:KeptOff w1 w2 g):KeptOff w w2 g:=
 ⟨k.os.trans h.os,k.tape.trans h.tape,k.output.trans h.output,Nat.le_trans h.size k.size,λ i hi hne=>(k.block i (Nat.lt_of_lt_of_le hi h.size) hne).trans (h.block i hi hne)⟩
theorem KeptOff.of_below (h:Below w.heap.size w w'):KeptOff w w' g:=⟨h.os,h.tape,h.output,h.size,λ k hk _=>h.block k hk⟩
theorem KeptOff.blk {g':Nat} {t:TypeId} {cs:Array Value} (h:KeptOff w w' g) (hb:Blk w g' t cs) (hne:g'≠g):Blk w' g' t cs:=hb.grown h (by intro e;injection e with e;exact hne e)
theorem KeptOff.below {B:Nat} (h:KeptOff w w' g) (hB:B<=w.heap.size) (hg:B<=g):Below B w w':=
 (Below.refl _ _).grown h hB λ k e=>by injection e with e;omega
theorem KeptOff.new_ (h:KeptOff w w' g) {p:Addr} (hp:w.heap.size<=p.block) (u:Value):KeptOff w (w'.setCell p u) g:=
 ⟨h.os,h.tape,h.output,by simpa [World.setCell] using h.size,λ k hk hne=>(Below.heap_setCell _ _ _ _ (by omega)).trans (h.block k hk hne)⟩
end
def Rd (w:World) (g:Nat) (s:ByteArray) (x:Sx) (op:Int):Prop:=Blk w g 182 #[.string s,.int .i64 (x.p:Int),.int .i64 op,.int .i64 x.e]
section
variable {w w':World} {g:Nat} {s:ByteArray} {x:Sx} {op:Int}
theorem Rd.facts (h:Rd w g s x op):w.cell? ⟨g,0,none⟩=some (.string s)/\w.cell? ⟨g,1,none⟩=some (.int .i64 (x.p:Int))/\w.cell? ⟨g,2,none⟩=some (.int .i64 op)/\w.cell? ⟨g,3,none⟩=some (.int .i64 x.e):=⟨h.cell 0,h.cell 1,h.cell 2,h.cell 3⟩
theorem Rd.drewN (h:Rd w g s x op) (n:Nat):Rd (w.drewN n) g s x op:=Blk.drewN h n
theorem Rd.below (h:Rd w g s x op) (hb:Below w.heap.size w w'):Rd w' g s x op:=Blk.below h hb (Blk.lt h)
theorem Rd.setP (h:Rd w g s x op) (p:Nat):Rd (w.setCell ⟨g,1,none⟩ (.int .i64 (p:Int))) g s ⟨p,x.e⟩ op:=Blk.set_ h 1 _
theorem Rd.setO (h:Rd w g s x op) (o:Int):Rd (w.setCell ⟨g,2,none⟩ (.int .i64 o)) g s x o:=Blk.set_ h 2 _
theorem Rd.setE (h:Rd w g s x op) (e:Int):Rd (w.setCell ⟨g,3,none⟩ (.int .i64 e)) g s ⟨x.p,e⟩ op:=Blk.set_ h 3 _
end
section
variable (s:ByteArray) (hs:s.size<=200) (x:Sx) (op:Int) (g:Nat) (w:World)
include hs
omit hs in
set_option maxHeartbeats 1000000 in
theorem xq2 (hp:x.p<=s.size) (hR:Rd w g s x op):
 Calls Tryz.prog 176 #[.pointer (some ⟨g,0,none⟩)] w λ e w'=>e= .returned (.int .i64 (nx s x))/\∃ q,w'=w.drewN q:=by
 obtain⟨c0,c1,c2,c3⟩:=hR.facts;obtain⟨N,hN⟩:∃ N,N=nx s x:=⟨_,rfl⟩;rw [<-hN];have HN:=qh hN;clear hN hR;obtain⟨p,e⟩:=x;dsimp only at c1 c3 hp;by_cases h1:p=s.size
 . subst h1;have HX:Hid (N= -1):=qh (HN.out.trans (Kq7 λ k=>absurd k.2 (Nat.lt_irrefl _)));go_enter Tryz.func176,Tryz.ntmps176;go_wp2_with fail;go_quiet (fail)
   go_wp2_with fail;go_ret;exact⟨by rw [HX.out];rfl,_,rfl⟩
 . have hlt:p<s.size:=(by omega);have f1:((p:Int)==(s.size:Int))=false:=(by rw [beq_eq_false_iff_ne];omega);by_cases h2:e=0
   . subst h2;have HX:Hid (N=(s[p].toNat:Int)):=qh (HN.out.trans (KA1 rfl hlt));have hb:=s[p].toNat_lt;go_enter Tryz.func176,Tryz.ntmps176;go_wp2_with fail;go_quiet (fail)
     go_wp2_with fail;go_quiet (fail)
     go_wp2_with fail;go_ret;exact⟨by rw [HX.out];rfl,_,World.drewN_drewN _ _ _⟩
   . have f2:(e !=0)=true:=(by rw [bne_iff_ne];exact h2);have HX:Hid (N= -1):=qh (HN.out.trans (Kq7 λ k=>h2 k.1));go_enter Tryz.func176,Tryz.ntmps176;go_wp2_with fail;go_quiet (fail)
     go_wp2_with fail;go_ret;exact⟨by rw [HX.out];rfl,_,rfl⟩
omit hs in
theorem z88 (c:Int) (hR:Rd w g s x op):
 Calls Tryz.prog 133 #[.pointer (some ⟨g,0,none⟩),.int .i64 c] w λ e w'=>e= .returned (.tuple #[])/\Rd w' g s (x.fl c) op/\KeptOff w w' g:=by
 obtain⟨c0,c1,c2,c3⟩:=hR.facts;have hf:=Blk.frozen hR 3;have H:=qh hR;clear hR;by_cases h2:x.e=0
 focus
  have HX:Hid (x.fl c=⟨x.p,c⟩):=qh (if_pos h2);rw [h2] at c3
 rotate_left
 focus
  have HX:Hid (x.fl c=x):=qh (if_neg h2);have f2:(x.e==0)=false:=by rw [beq_eq_false_iff_ne];exact h2
 rotate_left
 all_goals
  clear h2;go_enter Tryz.func133,Tryz.ntmps133;go_wp2_with fail
  go_end0
 . exact⟨rfl,by rw [HX.out];exact H.out.setE c,KeptOff.refl.set_ 3 _⟩
 . exact⟨rfl,by rw [HX.out];exact H.out,KeptOff.refl⟩
def tkX (s:ByteArray) (x:Sx) (b:Int):Sx:=if nx s x=b then x.up else x
set_option maxHeartbeats 1000000 in
theorem k06 (b:Int) (hp:x.p<=s.size) (hR:Rd w g s x op):
 Calls Tryz.prog 158 #[.pointer (some ⟨g,0,none⟩),.int .i64 b] w λ e w'=>e= .returned (.bool (nx s x==b))/\Rd w' g s (tkX s x b) op/\KeptOff w w' g:=by
 have CN:=qh (xq2 s x op g w hp hR);have H:=qh hR;clear hR;by_cases h:nx s x=b
 . have HX:Hid (tkX s x b=x.up):=qh (if_pos h);rw [h] at CN;have HB:Hid ((nx s x==b)=true):=qh (beq_iff_eq.2 h);clear h;go_enter Tryz.func158,Tryz.ntmps158;go_wp2_with fail;refine CN.out.mono ?_;rintro e w1 ⟨rfl,q,hq⟩;have hR1:Rd w1 g s x op:=(by rw [hq];exact H.out.drewN q);have HK:Hid (KeptOff w w1 g):=qh (by rw [hq];exact KeptOff.refl.drewN q);obtain⟨c0,c1,c2,c3⟩:=hR1.facts;have hf:=Blk.frozen hR1 1;have H1:=qh hR1;have hw:IntKind.i64.wrap ((x.p:Int)+1)=((x.p+1:Nat):Int):=IntWalk.i64_in _ (by omega);clear hq hR1;go_wp2_with fail;go_ret;exact⟨by rw [HB.out];rfl,by rw [HX.out];exact H1.out.setP (x.p+1),HK.out.set_ 1 _⟩
 . have HX:Hid (tkX s x b=x):=qh (if_neg h);have HB:Hid ((nx s x==b)=false):=qh (beq_eq_false_iff_ne.2 h);have f:(nx s x !=b)=true:=(by rw [bne_iff_ne];exact h);clear h;go_enter Tryz.func158,Tryz.ntmps158;go_wp2_with fail;refine CN.out.mono ?_;rintro e w1 ⟨rfl,q,hq⟩;have HR1:Hid (Rd w1 g s x op):=qh (by rw [hq];exact H.out.drewN q);have HK:Hid (KeptOff w w1 g):=qh (by rw [hq];exact KeptOff.refl.drewN q);clear hq;go_wp2_with fail;go_ret;exact⟨by rw [HB.out];rfl,by rw [HX.out];exact HR1.out,HK.out⟩
omit hs in
set_option maxHeartbeats 1000000 in
theorem Xg0 (hp:x.p<=s.size) (hR:Rd w g s x op):
 Calls Tryz.prog 174 #[.pointer (some ⟨g,0,none⟩)] w λ e w'=>e= .returned (.bool (enB s x))/\∃ q,w'=w.drewN q:=by
 have CN:=qh (xq2 s x op g w hp hR)
 have hE:enB s x=(decide (nx s x<0)||(nx s x==124||nx s x==41)):=by
  unfold enB;rw [Bool.eq_iff_iff];simp
 have HE:=qh hE;clear hR hE;obtain⟨N,hN⟩:∃ N,N=nx s x:=⟨_,rfl⟩;rw [<-hN] at CN HE;clear hN;by_cases h1:N<0
 focus
  have d1:decide (N<0)=true:=decide_eq_true h1;have HX:Hid (enB s x=true):=qh (by rw [HE.out,d1];rfl)
 rotate_left
 focus
  have d1:decide (N<0)=false:=decide_eq_false h1;cases q1:(N==124)
  focus
   cases q2:(N==41)
   focus
    have HX:Hid (enB s x=false):=qh (by rw [HE.out,d1,q1,q2];rfl)
   rotate_left
   focus
    have HX:Hid (enB s x=true):=qh (by rw [HE.out,d1,q1,q2];rfl)
  rotate_left 2
  focus
   have HX:Hid (enB s x=true):=qh (by rw [HE.out,d1,q1];rfl)
  rotate_left
 rotate_left 3
 all_goals
  go_enter Tryz.func174,Tryz.ntmps174;go_wp2_with fail;refine CN.out.mono ?_;rintro e w1 ⟨rfl,q,rfl⟩;go_wp2_with fail;go_ret
 . exact⟨by rw [HX.out];rfl,_,rfl⟩
 . exact⟨by rw [HX.out];rfl,_,rfl⟩
 . exact⟨by rw [HX.out];rfl,_,rfl⟩
 . exact⟨by rw [HX.out];rfl,_,rfl⟩
end
end Go.Proofs.YtngepacmgabmaaaGreatDoor
