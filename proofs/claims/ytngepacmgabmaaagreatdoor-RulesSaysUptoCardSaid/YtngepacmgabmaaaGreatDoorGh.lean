/- Walks: octet.Quote, wickref.Quote; Walk: rules.text: a rule's text .. -/
import Derived.Test.YtngepacmgabmaaaGreatDoorGg
namespace Go.Proofs.YtngepacmgabmaaaGreatDoor
open Go.RowKit
set_option linter.unusedVariables false
set_option linter.unusedSimpArgs false
def escL:List UInt8:= [110,114,116,115,92]
def XS7 (b:UInt8):List UInt8:=
 if b=10 then [92,110] else if b=13 then [92,114] else if b=9 then [92,116] else if b=32 then [92,115] else if b=92 then [92,92]
 else if b.toNat<33\/126<b.toNat then [92,120,Jq5.getD (b.toNat/16) 0,Jq5.getD (b.toNat%16) 0] else [b]
def zj7 (l:List UInt8):List UInt8:=if l= [] then [45] else if l= [45] then [92,45] else l.flatMap XS7
theorem kG9:∀ b:UInt8,(XS7 b).length<=4:=k73 (by decide+kernel)
theorem Jh5:(ByteArray.mk #[110,114,116,115,92]).size=5:=rfl
theorem qw4:∀ k:Fin 5,((ByteArray.mk #[110,114,116,115,92])[k.val]'(by rw [Jh5];exact k.isLt))=escL.getD k.val 0:=by decide
theorem Kk4 (k:Nat) (h:k<5):((ByteArray.mk #[110,114,116,115,92])[k]'(by rw [Jh5];exact h))=escL.getD k 0:=qw4 ⟨k,h⟩
theorem YR9:∀ b:UInt8,(∃ K:Fin 5,ixb [10,13,9,32,92] (b.toNat:Int)=(K.val:Int)/\XS7 b= [92,escL.getD K.val 0])\/
 (ixb [10,13,9,32,92] (b.toNat:Int)= -1/\b.toNat<33/\XS7 b= [92,120,Jq5.getD (b.toNat/16) 0,Jq5.getD (b.toNat%16) 0])\/
 (ixb [10,13,9,32,92] (b.toNat:Int)= -1/\126<b.toNat/\XS7 b= [92,120,Jq5.getD (b.toNat/16) 0,Jq5.getD (b.toNat%16) 0])\/
 (ixb [10,13,9,32,92] (b.toNat:Int)= -1/\33<=b.toNat/\b.toNat<=126/\XS7 b= [b]):=k73 (by decide+kernel)
theorem yU5 (s:ByteArray) (l:List UInt8) (h:s.data.toList=l) (n J:Int) (hJ:ixb l n=J) (w:World):
 Calls Tryz.prog 98 #[.string s,.int .u8 n] w λ e w'=>e= .returned (.int .i64 J)/\w=w':=by
 subst hJ;exact qP2 s l h n w
theorem kF2 {s:ByteArray} (c:UInt8):(s.toList== [c])=decide (s.data.toList= [c]):=by
 rw [Lib.toList_data];by_cases h:s.data.toList= [c]<;>simp [h]
theorem q69 {s:ByteArray}:s.toList.isEmpty=decide (s.data.toList= []):=by
 rw [Lib.toList_data];cases s.data.toList<;>simp
theorem KP3 (b:UInt8) (w:World):Calls Tryz.prog 59 #[.int .u8 b.toNat,.string ⟨#[48,49,50,51,52,53,54,55,56,57,97,98,99,100,101,102]⟩] w λ e w'=>e= .returned (.string (str [Jq5.getD (b.toNat/16) 0,Jq5.getD (b.toNat%16) 0]))/\∃ q,w'=w.drewN q:=by
 obtain⟨c1,c2⟩:=j65 b;exact x05 (b.toNat:Int) ⟨#[48,49,50,51,52,53,54,55,56,57,97,98,99,100,101,102]⟩ w (by decide) (by decide) c1 c2
theorem qu3 (L M N:List UInt8):str L++(str M++str N)=str (L++(M++N)):=by rw [Yz0,Yz0]
set_option maxHeartbeats 2000000 in
theorem JU9 (s:ByteArray) (w:World) (hs:s.size<=1048576):
 Calls Tryz.prog 65 #[.string s] w λ e w'=>e= .returned (.string (str (zj7 s.data.toList)))/\Below w.heap.size w w':=by
 by_cases h0:s.data.toList= []
 . have HQ:=qh (show zj7 s.data.toList= [45] by unfold zj7;rw [if_pos h0]);have e0:s.toList= []:=(by rw [Lib.toList_data];exact h0);have e1:=q69.trans (decide_eq_true h0);clear h0;go_enter Tryz.func65,Tryz.ntmps65
   go_wp2
   go_ret;exact⟨Zf7 (by rw [HQ.out]),Below.refl _ _⟩
 . have e1:=q69.trans (decide_eq_false h0);by_cases h1:s.data.toList= [45]
   . have HQ:=qh (show zj7 s.data.toList= [92,45] by unfold zj7;rw [if_neg h0,if_pos h1]);have e2:=(kF2 45).trans (decide_eq_true h1);clear h0 h1;go_enter Tryz.func65,Tryz.ntmps65
     go_wp2
     go_ret;exact⟨Zf7 (by rw [HQ.out]),Below.refl _ _⟩
   . have HQ:=qh (show zj7 s.data.toList=s.data.toList.flatMap XS7 by unfold zj7;rw [if_neg h0,if_neg h1]);have e2:=(kF2 45).trans (decide_eq_false h1);clear h0 h1;go_enter Tryz.func65,Tryz.ntmps65;go_wp2_with fail;go_loopw [3,14] (λ v i wr=>∃ k:Nat,k<=s.size/\i= .int .i64 k/\OB wr w.heap.size v ((s.data.toList.take k).flatMap XS7)/\Below w.heap.size w wr) (λ _ i _=>s.size-(intOf i).toNat)
     case atStart=>exact⟨0,by omega,rfl,OB.nil _ _,Below.refl _ _⟩
     case round=>
      obtain⟨k,hk,rfl,hown,hbl⟩:=hrel;have HO:=qh hown;have hsz:=hbl.size;have HB:=qh hbl;clear hown hbl;by_cases hlt:k<s.size
      . have hlen:=J09 kG9 (s.data.toList.take k);rw [Jp3 s k hk] at hlen;obtain⟨c1,c2⟩:=j65 s[k];rcases YR9 s[k] with⟨⟨K,hK⟩,h,ha⟩|⟨h,g,ha⟩|⟨h,g,ha⟩|⟨h,g,g2,ha⟩
        . have HX:=qh h;have HA:=qh ha;have hk1:(0:Int)<=(K:Int)/\(K:Int)<5:=(by omega);clear h ha
          go_wp2_with (first
           |(go_at_call 98;refine(yU5 _ [10,13,9,32,92] rfl _ _ HX.out _).mono ?_;rintro e w' ⟨rfl,rfl⟩)
           |(at_builtin;go_must (refine QI7 (w:=wr) rfl (.tmp 29) (.tmp 32) rfl HO.out rfl _ [92,escL.getD K 0] (by simp only [List.map_cons,List.map_nil,bv];rw [<-Kk4 K hK];rfl) rfl (by simp only [List.length_cons,List.length_nil];omega) hsz ?_);intro v' w1 ho1 hb1))
          go_roundw
          case rel=>exact⟨k+1,by omega,by go_num,by rw [z87 hlt,HA.out];exact ho1,HB.out.trans hb1⟩
          case measure=>simp [intOf];omega
        . have HX:=qh h;have HA:=qh ha;have g3:(s[k].toNat:Int)<33\/126<(s[k].toNat:Int):=(by omega);have hq:0<=(s[k].toNat:Int)/16/\(s[k].toNat:Int)/16<16:=(by omega);have hr0:0<=bits .and .u8 (s[k].toNat:Int) 15/\bits .and .u8 (s[k].toNat:Int) 15<16:=(by rw [KM4];omega);have hr:0<=(s[k].toNat:Int)%16/\(s[k].toNat:Int)%16<16:=(by omega);have HO2:Hid (OB wr.drew w.heap.size u3 ((s.data.toList.take k).flatMap XS7)):=HO.out;have g4:(s[k].toNat:Int)<33:=(by omega);clear h ha g g3;go_wp2_with (go_at_call 98;refine(yU5 _ [10,13,9,32,92] rfl _ _ HX.out _).mono ?_;rintro e w' ⟨rfl,rfl⟩);go_region_law (first|(refine zp4 (w:=wr.drew) rfl (.tmp 41) (.tmp 48) rfl HO2.out rfl _ [92,120,Jq5.getD (s[k].toNat/16) 0,Jq5.getD (s[k].toNat%16) 0] (by simp only [List.map_cons,List.map_nil,bv];rw [Yv8 _ _ (s[k].toNat/16) (by omega),Yv8 _ _ (s[k].toNat%16) (by rw [KM4];omega)];rfl) rfl (by simp only [List.length_cons,List.length_nil];omega) hsz ?_;intro v' w1 ho1 hb1))
          all_goals go_wp2
          all_goals go_roundw
          all_goals first
           |exact⟨k+1,by omega,by go_num,by rw [z87 hlt,HA.out];exact ho1,HB.out.drew.trans hb1⟩
           |(simp [intOf];omega)
        . have HX:=qh h;have HA:=qh ha;have g3:(s[k].toNat:Int)<33\/126<(s[k].toNat:Int):=(by omega);have hq:0<=(s[k].toNat:Int)/16/\(s[k].toNat:Int)/16<16:=(by omega);have hr0:0<=bits .and .u8 (s[k].toNat:Int) 15/\bits .and .u8 (s[k].toNat:Int) 15<16:=(by rw [KM4];omega);have hr:0<=(s[k].toNat:Int)%16/\(s[k].toNat:Int)%16<16:=(by omega);have HO2:Hid (OB wr.drew w.heap.size u3 ((s.data.toList.take k).flatMap XS7)):=HO.out;have g4:33<=(s[k].toNat:Int)/\126<(s[k].toNat:Int):=(by omega);clear h ha g g3;go_wp2_with (go_at_call 98;refine(yU5 _ [10,13,9,32,92] rfl _ _ HX.out _).mono ?_;rintro e w' ⟨rfl,rfl⟩);go_region_law (first|(refine zp4 (w:=wr.drew) rfl (.tmp 41) (.tmp 48) rfl HO2.out rfl _ [92,120,Jq5.getD (s[k].toNat/16) 0,Jq5.getD (s[k].toNat%16) 0] (by simp only [List.map_cons,List.map_nil,bv];rw [Yv8 _ _ (s[k].toNat/16) (by omega),Yv8 _ _ (s[k].toNat%16) (by rw [KM4];omega)];rfl) rfl (by simp only [List.length_cons,List.length_nil];omega) hsz ?_;intro v' w1 ho1 hb1))
          all_goals go_wp2
          all_goals go_roundw
          all_goals first
           |exact⟨k+1,by omega,by go_num,by rw [z87 hlt,HA.out];exact ho1,HB.out.drew.trans hb1⟩
           |(simp [intOf];omega)
        . have HX:=qh h;have HA:=qh ha;have g3:(33:Int)<=s[k].toNat/\(s[k].toNat:Int)<=126:=(by omega);clear h ha g g2
          go_wp2_with (first
           |(go_at_call 98;refine(yU5 _ [10,13,9,32,92] rfl _ _ HX.out _).mono ?_;rintro e w' ⟨rfl,rfl⟩)
           |(at_builtin;go_must (refine QI7 (w:=wr) rfl (.tmp 22) (.tmp 24) rfl HO.out rfl _ [s[k]] rfl rfl (by simp only [List.length_cons,List.length_nil];omega) hsz ?_);intro v' w1 ho1 hb1))
          go_roundw
          case rel=>exact⟨k+1,by omega,by go_num,by rw [z87 hlt,HA.out];exact ho1,HB.out.trans hb1⟩
          case measure=>simp [intOf];omega
      . have h:=Q18 HO.out;rw [jS5 s (by omega)] at h
        go_wp2
        go_ret;exact⟨Zf7 (by rw [HQ.out]),HB.out⟩
set_option maxHeartbeats 2000000 in
theorem JJ0 (s:ByteArray) (w:World) (hs:s.size<=1048576):
 Calls Tryz.prog 30 #[.string s] w λ e w'=>e= .returned (.string (str (zj7 s.data.toList)))/\Below w.heap.size w w':=by
 by_cases h0:s.data.toList= []
 . have HQ:=qh (show zj7 s.data.toList= [45] by unfold zj7;rw [if_pos h0]);have e1:=q69.trans (decide_eq_true h0);clear h0;go_enter Tryz.func30,Tryz.ntmps30
   go_wp2
   go_ret;exact⟨Zf7 (by rw [HQ.out]),Below.refl _ _⟩
 . have e1:=q69.trans (decide_eq_false h0);by_cases h1:s.data.toList= [45]
   . have HQ:=qh (show zj7 s.data.toList= [92,45] by unfold zj7;rw [if_neg h0,if_pos h1]);have e2:=(kF2 45).trans (decide_eq_true h1);clear h0 h1;go_enter Tryz.func30,Tryz.ntmps30
     go_wp2
     go_ret;exact⟨Zf7 (by rw [HQ.out]),Below.refl _ _⟩
   . have HQ:=qh (show zj7 s.data.toList=s.data.toList.flatMap XS7 by unfold zj7;rw [if_neg h0,if_neg h1]);have e2:=(kF2 45).trans (decide_eq_false h1);clear h0 h1;go_enter Tryz.func30,Tryz.ntmps30;go_wp2_with fail;go_loopw [3,4] (λ v i wr=>∃ k:Nat,k<=s.size/\i= .int .i64 k/\v= .string (str ((s.data.toList.take k).flatMap XS7))/\Below w.heap.size w wr) (λ _ i _=>s.size-(intOf i).toNat)
     case atStart=>exact⟨0,by omega,rfl,rfl,Below.refl _ _⟩
     case round=>
      obtain⟨k,hk,rfl,rfl,hbl⟩:=hrel;have HB:=qh hbl;clear hbl;by_cases hlt:k<s.size
      . have hlen:=J09 kG9 (s.data.toList.take k);rw [Jp3 s k hk] at hlen;obtain⟨L,hL⟩:∃ L,L=(s.data.toList.take k).flatMap XS7:=⟨_,rfl⟩;rw [<-hL] at hlen⊢;have HL:=qh hL;clear hL;have hLs:(str L).size<=4194304:=(by rw [Xp5];omega);obtain⟨c1,c2⟩:=j65 s[k];by_cases h10:s[k]=10
        . have HA:=qh (show XS7 s[k]= [92,110] by unfold XS7;rw [if_pos h10]);have e10:((s[k].toNat:Int)==10)=true:=zf5 (c:=10) h10;clear h10;go_wp2_with fail;go_roundw
          case rel=>exact⟨k+1,by omega,by go_num,kg2 (by rw [z87 hlt,HA.out,<-HL.out];exact Yz0 L [92,110]),HB.out⟩
          case measure=>simp [intOf];omega
        by_cases h13:s[k]=13
        . have HA:=qh (show XS7 s[k]= [92,114] by unfold XS7;rw [if_neg h10,if_pos h13]);have e13:((s[k].toNat:Int)==13)=true:=zf5 (c:=13) h13;have e10:((s[k].toNat:Int)==10)=false:=kd3 (c:=10) h10;clear h10 h13;go_wp2_with fail;go_roundw
          case rel=>exact⟨k+1,by omega,by go_num,kg2 (by rw [z87 hlt,HA.out,<-HL.out];exact Yz0 L [92,114]),HB.out⟩
          case measure=>simp [intOf];omega
        by_cases h9:s[k]=9
        . have HA:=qh (show XS7 s[k]= [92,116] by unfold XS7;rw [if_neg h10,if_neg h13,if_pos h9]);have e9:((s[k].toNat:Int)==9)=true:=zf5 (c:=9) h9;have e10:((s[k].toNat:Int)==10)=false:=kd3 (c:=10) h10;have e13:((s[k].toNat:Int)==13)=false:=kd3 (c:=13) h13;clear h10 h13 h9;go_wp2_with fail;go_roundw
          case rel=>exact⟨k+1,by omega,by go_num,kg2 (by rw [z87 hlt,HA.out,<-HL.out];exact Yz0 L [92,116]),HB.out⟩
          case measure=>simp [intOf];omega
        by_cases h32:s[k]=32
        . have HA:=qh (show XS7 s[k]= [92,115] by unfold XS7;rw [if_neg h10,if_neg h13,if_neg h9,if_pos h32]);have e32:((s[k].toNat:Int)==32)=true:=zf5 (c:=32) h32;have e10:((s[k].toNat:Int)==10)=false:=kd3 (c:=10) h10;have e13:((s[k].toNat:Int)==13)=false:=kd3 (c:=13) h13;have e9:((s[k].toNat:Int)==9)=false:=kd3 (c:=9) h9;clear h10 h13 h9 h32;go_wp2_with fail;go_roundw
          case rel=>exact⟨k+1,by omega,by go_num,kg2 (by rw [z87 hlt,HA.out,<-HL.out];exact Yz0 L [92,115]),HB.out⟩
          case measure=>simp [intOf];omega
        by_cases h92:s[k]=92
        . have HA:=qh (show XS7 s[k]= [92,92] by unfold XS7;rw [if_neg h10,if_neg h13,if_neg h9,if_neg h32,if_pos h92]);have e92:((s[k].toNat:Int)==92)=true:=zf5 (c:=92) h92;have e10:((s[k].toNat:Int)==10)=false:=kd3 (c:=10) h10;have e13:((s[k].toNat:Int)==13)=false:=kd3 (c:=13) h13;have e9:((s[k].toNat:Int)==9)=false:=kd3 (c:=9) h9;have e32:((s[k].toNat:Int)==32)=false:=kd3 (c:=32) h32;clear h10 h13 h9 h32 h92;go_wp2_with fail;go_roundw
          case rel=>exact⟨k+1,by omega,by go_num,kg2 (by rw [z87 hlt,HA.out,<-HL.out];exact Yz0 L [92,92]),HB.out⟩
          case measure=>simp [intOf];omega
        have e10:((s[k].toNat:Int)==10)=false:=kd3 (c:=10) h10;have e13:((s[k].toNat:Int)==13)=false:=kd3 (c:=13) h13;have e9:((s[k].toNat:Int)==9)=false:=kd3 (c:=9) h9;have e32:((s[k].toNat:Int)==32)=false:=kd3 (c:=32) h32;have e92:((s[k].toNat:Int)==92)=false:=kd3 (c:=92) h92;by_cases hx:s[k].toNat<33\/126<s[k].toNat
        . have HA:=qh (show XS7 s[k]= [92,120,Jq5.getD (s[k].toNat/16) 0,Jq5.getD (s[k].toNat%16) 0] by unfold XS7;rw [if_neg h10,if_neg h13,if_neg h9,if_neg h32,if_neg h92,if_pos hx]);have hx2:(s[k].toNat:Int)<33\/(33<=(s[k].toNat:Int)/\126<(s[k].toNat:Int)):=(by omega);clear h10 h13 h9 h32 h92 hx;rcases hx2 with hx2|hx2
          all_goals
           go_wp2_with (go_at_call 59;refine(KP3 s[k] _).mono ?_;rintro e w' ⟨rfl,q,rfl⟩)
          all_goals go_roundw
          all_goals first
           |exact⟨k+1,by omega,by go_num,kg2 (by rw [z87 hlt,HA.out,<-HL.out];exact qu3 L [92,120] _),below_drewN HB.out _⟩
           |(simp [intOf];omega)
        . have HA:=qh (show XS7 s[k]= [s[k]] by unfold XS7;rw [if_neg h10,if_neg h13,if_neg h9,if_neg h32,if_neg h92,if_neg hx]);have hx2:33<=(s[k].toNat:Int)/\(s[k].toNat:Int)<=126:=(by omega);clear h10 h13 h9 h32 h92 hx;go_wp2_with fail;go_roundw
          case rel=>exact⟨k+1,by omega,by go_num,kg2 (by rw [z87 hlt,HA.out,<-HL.out];exact qE6 L s k hlt),HB.out⟩
          case measure=>simp [intOf];omega
      . go_wp2
        go_ret;exact⟨Zf7 (by rw [HQ.out,jS5 s (by omega)]),HB.out⟩
def wdB (ch:Bool):ByteArray:=if ch=true then ⟨#[99,104,97,105,110]⟩ else ⟨#[114,117,108,101]⟩
def noB (no:Bool):ByteArray:=if no=true then ⟨#[33]⟩ else ⟨#[]⟩
def ruW (r:Ru):List ByteArray:= [wdB r.ch,itS r.id,itS r.ph,jnS (r.vs.map vTx) 44,str (xw9 r.zs),noB r.no++owB r.op,str (zj7 r.arg.data.toList),jnS (r.xs.map aTx) 44]
def ruT (r:Ru):ByteArray:=jnS (ruW r) 32
structure RuP (r:Ru):Prop where
 id: -9223372036854775808<=r.id/\r.id<=9223372036854775807
 ph: -9223372036854775808<=r.ph/\r.ph<=9223372036854775807
 vl:r.vs.length<=8
 vs:∀ v∈r.vs,(0<=v.k/\v.k<13)/\0<=v.m/\v.m<3
 zs:yU7 r.zs=0
 op:0<=r.op/\r.op<13
 xl:r.xs.length<=8
 xs:∀ v∈r.xs,(0<=v.1/\v.1<6)/\v.2<=9223372036854775807
theorem y98 (l:List UInt8):(zj7 l).length<=4*l.length+8:=by
 have h:∀ l:List UInt8,(l.flatMap XS7).length<=4*l.length:=λ l=>by
  induction l with
  |nil=>simp
  |cons b l ih=>rw [List.flatMap_cons,List.length_append,List.length_cons];have:=kG9 b;omega
 unfold zj7;split
 . simp
 . split
   . simp
   . have:=h l;omega
theorem X90 {zs:List Int} (h:yU7 zs=0):(xw9 zs).length<=100:=by
 have h8:=(xJ4 h).1;unfold xw9;split
 . simp
 . have:=xm0 (N:=7) (s:= [44]) (l:=dl (yI5 zs)) λ x hx=>by
    obtain⟨y,hy,rfl⟩:=List.mem_map.1 hx;unfold yI5 at hy;obtain⟨z,_,rfl⟩:=List.mem_map.1 hy;rw [qX6];exact X92 _
   have hl:(dl (yI5 zs)).length=zs.length:=(by unfold yI5;simp);rw [hl] at this;have:=Nat.mul_le_mul_right (7+1) h8;simp only [List.length_cons,List.length_nil] at*;omega
theorem kI1 {r:Ru} (hp:RuP r) (hv:∀ v∈r.vs,v.n.size<=1048576) (ha:r.arg.size<=1048576):∀ x∈ruW r,x.size<=10000000:=by
 have h1:=y23 r.id hp.id;have h2:=y23 r.ph hp.ph
 have h3:=Jr8 (l:=r.vs.map vTx) (c:=44) (N:=1048600) λ x hx=>by
  obtain⟨v,hv2,rfl⟩:=List.mem_map.1 hx;exact JV7 (hp.vs v hv2).1 (hp.vs v hv2).2 (hv v hv2)
 have h4:=Jr8 (l:=r.xs.map aTx) (c:=44) (N:=1048600) λ x hx=>by
  obtain⟨v,hv2,rfl⟩:=List.mem_map.1 hx;exact j85 (hp.xs v hv2).1 (hp.xs v hv2).2
 rw [List.length_map] at h3 h4;have h5:=xL6 hp.op;have h6:=y98 r.arg.data.toList;have h7:=X90 hp.zs;rw [qX6] at h6;have hx1:=hp.vl;have hx2:=hp.xl;intro x hx;simp only [ruW,List.mem_cons,List.not_mem_nil,or_false] at hx;rcases hx with rfl|rfl|rfl|rfl|rfl|rfl|rfl|rfl
 . unfold wdB;split<;>decide
 . omega
 . omega
 . have:=Nat.mul_le_mul_right (1048600+1) hx1;omega
 . show (xw9 r.zs).toArray.size<=_;rw [List.size_toArray];omega
 . rw [ByteArray.size_append];have:(noB r.no).size<=1:=(by unfold noB;split<;>decide);omega
 . show (zj7 r.arg.data.toList).toArray.size<=_;rw [List.size_toArray];omega
 . have:=Nat.mul_le_mul_right (1048600+1) hx2;omega
section
variable (r:Ru) (B:Nat) (w:World)
set_option maxRecDepth 100000 in
set_option maxHeartbeats 8000000 in
theorem xd6 (h:RuM w B r) (hB:B<=w.heap.size) (hp:RuP r) (hT:TwI w):
 Calls Tryz.prog 32 #[.agg (Zn7 r).toArray] w λ e w'=>e= .returned (.string (ruT r))/\Below w.heap.size w w':=by
 have hws:=kI1 hp h.vs.2.2.2 h.ag;have H:=qh λ w' (hb:Below w.heap.size w w')=>h.below (hb.mono hB)
 have CI1:=qh λ w' (hb:Below w.heap.size w w')=>kR4 r.id hp.id w' (hT.below hb)
 have CI2:=qh λ w' (hb:Below w.heap.size w w')=>kR4 r.ph hp.ph w' (hT.below hb)
 have CJV:=qh λ w' (hb:Below w.heap.size w w')=>Qq3 r.vs r.VA r.vc B w' (H.out w' hb).vs (Nat.le_trans hB hb.size) (by have:=hp.vl;omega) hp.vs
 have CJA:=qh λ w' (hb:Below w.heap.size w w')=>yO2 r.xs r.XA r.xc B w' (H.out w' hb).xs (Nat.le_trans hB hb.size) (by have:=hp.xl;omega) hp.xs (hT.below hb)
 have CQ:=qh λ w'=>JU9 r.arg w' (by have:=h.ag;omega)
 have CP:=qh λ w' (hb:Below w.heap.size w w')=>Ko0 r.zs r.ZA r.zc w' (Reads.more (H.out w' hb).zs (Nat.le_trans hB hb.size)) (Nat.le_trans h.zl.1 h.zl.2) hp.zs
 obtain⟨k,hk⟩:=Int.eq_ofNat_of_zero_le hp.op.1
 have CO:Hid (∀ w',Calls Tryz.prog 46 #[.int .i64 r.op] w' λ e w''=>e= .returned (.string (owB r.op))/\w''=w'):=qh λ w'=>by
  have:=hp.op;rw [hk] at this⊢;exact(kO0 k (by omega) w').mono λ _ _ h=>And.intro h.1 h.2.symm
 have hR:ruT r=jnS [wdB r.ch,itS r.id,itS r.ph,jnS (r.vs.map vTx) 44,str (xw9 r.zs),noB r.no++owB r.op,str (zj7 r.arg.data.toList),jnS (r.xs.map aTx) 44] 32:=rfl;have hsz:(ruT r).size<=8*(10000000+1):=Jr8 hws;have hO:=xL6 hp.op;have hno:(noB r.no).size<=1:=by unfold noB;split<;>decide
 obtain⟨R,hR0⟩:∃ R,R=ruT r:=⟨_,rfl⟩;rw [<-hR0] at hR hsz⊢;obtain⟨I1,hI1⟩:∃ x,x=itS r.id:=⟨_,rfl⟩;obtain⟨I2,hI2⟩:∃ x,x=itS r.ph:=⟨_,rfl⟩;obtain⟨J1,hJ1⟩:∃ x,x=jnS (r.vs.map vTx) 44:=⟨_,rfl⟩;obtain⟨J2,hJ2⟩:∃ x,x=jnS (r.xs.map aTx) 44:=⟨_,rfl⟩;obtain⟨P,hP⟩:∃ x,x=str (xw9 r.zs):=⟨_,rfl⟩;obtain⟨O,hO1⟩:∃ x,x=owB r.op:=⟨_,rfl⟩;obtain⟨Q,hQ⟩:∃ x,x=str (zj7 r.arg.data.toList):=⟨_,rfl⟩;obtain⟨N0,hN0⟩:∃ x,x=noB r.no:=⟨_,rfl⟩;obtain⟨W0,hW0⟩:∃ x,x=wdB r.ch:=⟨_,rfl⟩;rw [<-hI1] at CI1 hR;rw [<-hI2] at CI2 hR;rw [<-hJ1] at CJV hR;rw [<-hJ2] at CJA hR;rw [<-hP] at CP hR;rw [<-hO1] at CO hR hO;rw [<-hQ] at CQ hR;rw [<-hN0] at hR hno;rw [<-hW0] at hR;have HR:=qh hR;have z1:¬9223372036854775807<N0.size+O.size:=by omega
 have CJN:=qh fun(w':World)=>(show Calls Tryz.prog 62 #[.slice (some ⟨w'.heap.size,0,none⟩) 8 8,.string ⟨#[32]⟩] (w'.alloc (.cells #[.string W0,.string I1,.string I2,.string J1,.string P,.string (N0++O),.string Q,.string J2] 9)) λ e w''=>e= .returned (.string R)/\Below w'.heap.size w' w'' from by
  have ho:OS (w'.alloc (.cells #[.string W0,.string I1,.string I2,.string J1,.string P,.string (N0++O),.string Q,.string J2] 9)) w'.heap.size (.slice (some ⟨w'.heap.size,0,none⟩) [W0,I1,I2,J1,P,N0++O,Q,J2].length 8) [W0,I1,I2,J1,P,N0++O,Q,J2]:=World.ownsRow_lit w' #[.string W0,.string I1,.string I2,.string J1,.string P,.string (N0++O),.string Q,.string J2] 8 (Nat.le_refl _) (by decide) rfl;have hl:(Lib.join (dl [W0,I1,I2,J1,P,N0++O,Q,J2]) [32]).length=R.size:=by rw [HR.out];show _=(Lib.join (dl [W0,I1,I2,J1,P,N0++O,Q,J2]) [32]).toArray.size;rw [List.size_toArray]
  refine(z71 _ 8 _ ⟨#[32]⟩ _ w'.heap.size ho (by show 8<=140737488355320;omega) (by show (Lib.join (dl [W0,I1,I2,J1,P,N0++O,Q,J2]) [32]).length<=_;omega)).mono λ e w'' q=>⟨by rw [q.1,HR.out];rfl,((Below.refl _ _).alloc (Nat.le_refl _) _).trans (q.2.mono (by simp))⟩)
 have HWN:Hid ((r.ch=true->W0=⟨#[99,104,97,105,110]⟩)/\(r.ch=false->W0=⟨#[114,117,108,101]⟩)/\(r.no=true->N0=⟨#[33]⟩)/\(r.no=false->N0=⟨#[]⟩)):=qh (by
  rw [hW0,hN0];exact⟨λ h=>if_pos h,λ h=>if_neg (by rw [h];decide),λ h=>if_pos h,λ h=>if_neg (by rw [h];decide)⟩)
 clear h hws hT hI1 hI2 hJ1 hJ2 hP hO1 hQ hN0 hW0 hR hR0 hp hk hO hno hsz H;obtain⟨id,ph,vs,zs,no,op,arg,xs,ch,VA,vc,ZA,zc,XA,xc⟩:=r;dsimp only at CI1 CI2 CJV CJA CQ CP CO HWN;obtain⟨W,hW⟩:∃ W,w.alloc (.cells #[.int .i64 id,.int .i64 ph,.slice VA vs.length vc,.slice ZA zs.length zc,.bool no,.int .i64 op,.string arg,.slice XA xs.length xc,.bool ch] 44)=W:=⟨_,rfl⟩;have hb:Below w.heap.size w W:=by rw [<-hW];exact(Below.refl _ _).alloc (Nat.le_refl _) _
 have hB1:Blk W w.heap.size 44 #[.int .i64 id,.int .i64 ph,.slice VA vs.length vc,.slice ZA zs.length zc,.bool no,.int .i64 op,.string arg,.slice XA xs.length xc,.bool ch]:=by rw [<-hW];exact Blk.new _ _ _
 have HB:=qh hb;have HK:=qh hB1;obtain⟨_,_,_,c3,c4,_,_,_,c8⟩:=Blk.c9 hB1;clear hb hB1;go_enter Tryz.func32,Tryz.ntmps32;go_upto_if 8 with fail;go_cut [3] from 9 to 9 (λ u wx=>u= .string W0/\W=wx)
 case first=>
  clear CI1 CI2 CJV CJA CQ CP CO CJN;cases ch
  focus
   have h:=HWN.out.2.1 rfl
  rotate_left
  focus
   have h:=HWN.out.1 rfl
  all_goals
   subst h;clear HWN HR;go_wp2_with fail;go_meet;exact⟨rfl,rfl⟩
 case rest=>
  obtain⟨rfl,rfl⟩:=hcut;go_upto_if 10 with fail;go_cut [4] from 11 to 11 (λ u wx=>u= .string N0/\W=wx)
  case first=>
   clear CI1 CI2 CJV CJA CQ CP CO CJN;cases no
   focus
    have h:=HWN.out.2.2.2 rfl
   rotate_left
   focus
    have h:=HWN.out.2.2.1 rfl
   all_goals
    subst h;clear HWN HR;go_wp2_with fail;go_meet;exact⟨rfl,rfl⟩
  case rest=>
   obtain⟨rfl,rfl⟩:=hcut;clear HWN;go_wp2_with fail;refine(CP.out _ HB.out).mono ?_;rintro e w2 ⟨rfl,b2⟩;have HB2:=qh (HB.out.trans (b2.mono HB.out.size));have HK2:=qh (HK.out.below b2 (Blk.lt HK.out));have hlt:=Blk.lt HK2.out;have CIa:=qh λ w' (h:Below w2.heap.size w2 w')=>(CI1.out w' (HB2.out.trans (h.mono HB2.out.size))).mono λ _ w'' q=>And.intro q.1 (h.trans (q.2.mono h.size))
   have CIb:=qh λ w' (h:Below w2.heap.size w2 w')=>(CI2.out w' (HB2.out.trans (h.mono HB2.out.size))).mono λ _ w'' q=>And.intro q.1 (h.trans (q.2.mono h.size))
   have CJa:=qh λ w' (h:Below w2.heap.size w2 w')=>(CJV.out w' (HB2.out.trans (h.mono HB2.out.size))).mono λ _ w'' q=>And.intro q.1 (h.trans (q.2.mono h.size))
   have CJb:=qh λ w' (h:Below w2.heap.size w2 w')=>(CJA.out w' (HB2.out.trans (h.mono HB2.out.size))).mono λ _ w'' q=>And.intro q.1 (h.trans (q.2.mono h.size))
   have CQa:=qh λ w' (h:Below w2.heap.size w2 w')=>(CQ.out w').mono λ _ w'' q=>And.intro q.1 (h.trans (q.2.mono h.size))
   have CJn:=qh λ w' (h:Below w2.heap.size w2 w')=>(CJN.out w').mono λ _ w'' q=>And.intro q.1 (h.trans (q.2.mono h.size))
   have HS:Hid (∀ w',Below w2.heap.size w2 w'->w'.cell? ⟨w.heap.size,0,none⟩=some (.int .i64 id)/\w'.cell? ⟨w.heap.size,1,none⟩=some (.int .i64 ph)/\w'.cell? ⟨w.heap.size,2,none⟩=some (.slice VA vs.length vc)/\w'.cell? ⟨w.heap.size,5,none⟩=some (.int .i64 op)/\w'.cell? ⟨w.heap.size,6,none⟩=some (.string arg)/\w'.cell? ⟨w.heap.size,7,none⟩=some (.slice XA xs.length xc)):=qh λ w' h=>by
    have hk:=HK2.out.below h hlt;exact⟨hk.cell 0,hk.cell 1,hk.cell 2,hk.cell 5,hk.cell 6,hk.cell 7⟩
   have HSA:=qh λ w' (o:Obj) (h:Below w2.heap.size w2 w')=>HS.out (w'.alloc o) (h.alloc h.size o)
   have b0:Below w2.heap.size w2 w2:=Below.refl _ _;have b1:Below w2.heap.size w2 w2.drew:=below_drewN b0 1;clear b2 HB HK c8 c4 c3 CI1 CI2 CJV CJA CQ CP CJN HR;go_upto_region 7 with fail
   go_region_held3 (λ w'=>w'.cell? ⟨w.heap.size,0,none⟩=some (.int .i64 id)/\w'.cell? ⟨w.heap.size,1,none⟩=some (.int .i64 ph)/\w'.cell? ⟨w.heap.size,2,none⟩=some (.slice VA vs.length vc)/\w'.cell? ⟨w.heap.size,5,none⟩=some (.int .i64 op)/\w'.cell? ⟨w.heap.size,6,none⟩=some (.string arg)/\w'.cell? ⟨w.heap.size,7,none⟩=some (.slice XA xs.length xc)) (first|exact HS.out _ (by assumption)|exact HSA.out _ _ (by assumption))
    (first
     |(go_at_call 27;(with_reducible refine(CIa.out _ (by assumption)).mono ?_);rintro e w' ⟨rfl,hb'⟩)
     |(go_at_call 27;(with_reducible refine(CIb.out _ (by assumption)).mono ?_);rintro e w' ⟨rfl,hb'⟩)
     |(go_at_call 63;(with_reducible refine(CJa.out _ (by assumption)).mono ?_);rintro e w' ⟨rfl,hb'⟩)
     |(go_at_call 46;(with_reducible refine(CO.out _).mono ?_);rintro e w' ⟨rfl,rfl⟩)
     |(go_at_call 65;(with_reducible refine(CQa.out _ (by assumption)).mono ?_);rintro e w' ⟨rfl,hb'⟩)
     |(go_at_call 66;(with_reducible refine(CJb.out _ (by assumption)).mono ?_);rintro e w' ⟨rfl,hb'⟩)
     |(go_at_call 62;(with_reducible refine(CJn.out _ (by assumption)).mono ?_);rintro e w' ⟨rfl,hb'⟩)
     |fail)
   all_goals
    go_wp2_with fail;go_ret;exact⟨rfl,HB2.out.trans (Below.mono (by assumption) HB2.out.size)⟩
end
end Go.Proofs.YtngepacmgabmaaaGreatDoor
