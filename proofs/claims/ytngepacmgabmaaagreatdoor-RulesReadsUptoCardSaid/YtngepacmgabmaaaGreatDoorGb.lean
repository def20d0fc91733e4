/- Walk of wickref.in; small words on strin; Walk: octet.Dec .. -/
import Derived.Test.YtngepacmgabmaaaGreatDoorGa
import Derived.Deep.QuietTactic
import Derived.BigQuiet
import Derived.LoopTactic
namespace Go.Proofs.YtngepacmgabmaaaGreatDoor
open Go.RowKit
set_option linter.unusedVariables false
set_option linter.unusedSimpArgs false
def yk4 (n:Int) (l:List UInt8):Bool:=l.any λ b=>decide (n=b.toNat)
theorem jH7 {n:Int} {s:ByteArray} {k:Nat} (hk:k<s.size) (h:yk4 n (s.data.toList.take k)=false) (h2:¬n=s[k].toNat):yk4 n (s.data.toList.take (k+1))=false:=by
 rw [Zp9 s k hk];unfold yk4 at*;simp_all
theorem kl6 {n:Int} {s:ByteArray} {k:Nat} (hk:k<s.size) (h2:n=s[k].toNat):yk4 n s.data.toList=true:=by
 unfold yk4;rw [List.any_eq_true];exact⟨s[k],by rw [<-Kb1 s k hk];exact List.getElem_mem _,by simpa using h2⟩
set_option maxHeartbeats 400000 in
theorem Qs9 (n:Int) (s:ByteArray) (w:World) (hs:s.size<=maxLen) (h0:0<=n) (h1:n<=255):
 Calls Tryz.prog 55 #[.int .u8 n,.string s] w λ e w'=>e= .returned (.bool (yk4 n s.data.toList))/\w=w':=by
 unfold maxLen at hs;go_enter Tryz.func55,Tryz.ntmps55
 go_wp2
 go_loop [5] (λ i=>∃ k:Nat,k<=s.size/\i= .int .i64 k/\yk4 n (s.data.toList.take k)=false) (λ i=>s.size-(intOf i).toNat)
 case atStart=>exact⟨0,by omega,rfl,rfl⟩
 case round=>
  obtain⟨k,hk,rfl,hd⟩:=hrel;have HD:=qh hd;clear hd;by_cases hlt:k<s.size
  . by_cases he:n=s[k].toNat
    . have HE:=qh (kl6 hlt he);have he':=beq_iff_eq.2 he;clear he
      go_wp2
      go_ret;rw [HE.out];exact⟨rfl,rfl⟩
    . have he':=beq_eq_false_iff_ne.2 he
      go_wp2
      go_round
      case rel=>exact⟨k+1,by omega,by go_num,jH7 hlt HD.out he⟩
      case measure=>simp [intOf];omega
  . have h:=HD.out;rw [jS5 s (by omega)] at h;have HE:=qh h;clear h
    go_wp2
    go_ret;rw [HE.out];exact⟨rfl,rfl⟩
theorem Yz0 (L M:List UInt8):str L++str M=str (L++M):=ByteArray.mk_append_mk L M
theorem qE6 (L:List UInt8) (s:ByteArray) (k:Nat) (h:k<s.size):str L++s.extract k (k+1)=str (L++ [s[k]]):=by
 apply zH9;rw [Qr0,xJ5 s k h,Qe9,Qe9]
theorem kg2 {a b:ByteArray} (h:a=b):Value.string a= .string b:=by rw [h]
theorem X74 (n:Int) (s:ByteArray) (b:Bool) (hb:yk4 n s.data.toList=b) (w:World) (hs:s.size<=maxLen) (h0:0<=n) (h1:n<=255):
 Calls Tryz.prog 55 #[.int .u8 n,.string s] w λ e w'=>e= .returned (.bool b)/\w=w':=by
 subst hb;exact Qs9 n s w hs h0 h1
theorem xw4 (s:ByteArray):0<=zE8 10 9 s:=by
 unfold zE8;split
 . rename_i h
   unfold X76 at h;rw [Bool.and_eq_true,Bool.and_eq_true] at h;exact(yn7 (by omega) (by omega) _ h.1.1).1
 . omega
theorem Jc5 (s:ByteArray):(X76 10 9 s=false/\qH0 10 9 s=4)\/(X76 10 9 s=true/\qH0 10 9 s=0/\0<s.size):=by
 unfold qH0;cases h:X76 10 9 s with
 |false=>exact .inl ⟨rfl,rfl⟩
 |true=>
  refine .inr ⟨rfl,rfl,?_⟩;unfold X76 at h;rw [Bool.and_eq_true,Bool.and_eq_true,decide_eq_true_eq] at h;omega
theorem Yj3 (s:ByteArray) (w:World) (hs:s.size<=maxLen):
 Calls Tryz.prog 39 #[.string s] w λ e w'=>e= .returned (.tuple #[.int .i64 (zE8 10 9 s),.int .i64 (qH0 10 9 s)])/\w=w':=by
 go_enter Tryz.func39,Tryz.ntmps39;go_wp2_with fail;refine(qw1 s 10 9 _ hs (by omega) (by omega) (by omega) (by omega)).mono ?_;rintro e w' ⟨rfl,rfl⟩;go_wp2_with fail;go_ret2;exact⟨rfl,rfl⟩
def smN (s:ByteArray) (most:Int):Int:=if X76 10 9 s=true/\zE8 10 9 s<=most/\¬(1<s.size/\s.data.toList[0]? =some 48) then zE8 10 9 s else-1
theorem Ql8 (s:ByteArray) (most:Int) (h0: -1<=most): -1<=smN s most/\smN s most<=most:=by
 have:=xw4 s;unfold smN;split
 . omega
 . omega
section
variable (s:ByteArray) (most:Int) (w:World)
theorem kC5:(qH0 10 9 s=4/\smN s most= -1)\/(qH0 10 9 s=0/\most<zE8 10 9 s/\smN s most= -1)\/
 (∃ h:0<s.size,qH0 10 9 s=0/\¬most<zE8 10 9 s/\((s[0].toNat:Int)==48)=false/\smN s most=zE8 10 9 s)\/
 (∃ h:0<s.size,qH0 10 9 s=0/\¬most<zE8 10 9 s/\((s[0].toNat:Int)==48)=true/\¬(1:Int)<(s.size:Int)/\smN s most=zE8 10 9 s)\/
 (∃ h:0<s.size,qH0 10 9 s=0/\¬most<zE8 10 9 s/\((s[0].toNat:Int)==48)=true/\(1:Int)<(s.size:Int)/\smN s most= -1):=by
 rcases Jc5 s with⟨h1,h2⟩|⟨h1,h2,h3⟩
 . exact .inl ⟨h2,by unfold smN;rw [if_neg];rintro⟨h,_⟩;rw [h1] at h;cases h⟩
 . by_cases h4:most<zE8 10 9 s
   . exact .inr (.inl ⟨h2,h4,by unfold smN;rw [if_neg];rintro⟨_,h,_⟩;omega⟩)
   . have hg:=Kb1? s 0 h3;by_cases h5:s[0]=48
     . have e5:((s[0].toNat:Int)==48)=true:=(by rw [h5];rfl);by_cases h6:1<s.size
       . exact .inr (.inr (.inr (.inr ⟨h3,h2,h4,e5,by omega,by unfold smN;rw [if_neg];rintro⟨_,_,h⟩;exact h ⟨h6,by rw [hg,h5]⟩⟩)))
       . exact .inr (.inr (.inr (.inl ⟨h3,h2,h4,e5,by omega,by unfold smN;rw [if_pos ⟨h1,by omega,λ h=>h6 h.1⟩]⟩)))
     . have e5:((s[0].toNat:Int)==48)=false:=by
        rw [beq_eq_false_iff_ne];intro h;apply h5;apply UInt8.toNat_inj.1;show s[0].toNat=48;omega
       exact .inr (.inr (.inl ⟨h3,h2,h4,e5,by unfold smN;rw [if_pos ⟨h1,by omega,λ h=>h5 (by have:=h.2;rw [hg] at this;injection this)⟩]⟩))
set_option maxHeartbeats 1000000 in
theorem ya2 (hs:s.size<=maxLen):
 Calls Tryz.prog 142 #[.string s,.int .i64 most] w λ e w'=>e= .returned (.int .i64 (smN s most))/\∃ q,w'=w.drewN q:=by
 have C:=qh λ w'=>Yj3 s w' hs
 have hcs:=kC5 s most;unfold maxLen at hs;obtain⟨N,hN⟩:∃ N,N=zE8 10 9 s:=⟨_,rfl⟩;obtain⟨E,hE⟩:∃ E,E=qH0 10 9 s:=⟨_,rfl⟩;obtain⟨R,hR⟩:∃ R,R=smN s most:=⟨_,rfl⟩;rw [<-hN,<-hE] at C;rw [<-hN,<-hE,<-hR] at hcs;rw [<-hR];clear hN hE hR;rcases hcs with⟨rfl,rfl⟩|⟨rfl,h1,rfl⟩|⟨h0,rfl,h1,h2,rfl⟩|⟨h0,rfl,h1,h2,h3,rfl⟩|⟨h0,rfl,h1,h2,h3,rfl⟩
 all_goals
  go_enter Tryz.func142,Tryz.ntmps142;go_wp2_with fail;refine(C.out _).mono ?_;rintro e w' ⟨rfl,rfl⟩;go_wp2_with fail;go_ret;exact⟨rfl,0,rfl⟩
set_option maxHeartbeats 1000000 in
theorem kt9 (hs:s.size<=maxLen):
 Calls Tryz.prog 50 #[.string s,.int .i64 most] w λ e w'=>e= .returned (.int .i64 (smN s most))/\w=w':=by
 have C:=qh λ w'=>Jw5 s 10 9 w' hs (by omega) (by omega) (by omega) (by omega)
 have hcs:=kC5 s most;unfold maxLen at hs;obtain⟨N,hN⟩:∃ N,N=zE8 10 9 s:=⟨_,rfl⟩;obtain⟨E,hE⟩:∃ E,E=qH0 10 9 s:=⟨_,rfl⟩;obtain⟨R,hR⟩:∃ R,R=smN s most:=⟨_,rfl⟩;rw [<-hN,<-hE] at C;rw [<-hN,<-hE,<-hR] at hcs;rw [<-hR];clear hN hE hR;have hsz:s.size<=9223372036854775807:=hs;rcases hcs with⟨rfl,rfl⟩|⟨rfl,h1,rfl⟩|⟨h0,rfl,h1,h2,rfl⟩|⟨h0,rfl,h1,h2,h3,rfl⟩|⟨h0,rfl,h1,h2,h3,rfl⟩
 all_goals by_cases h4:(1:Int)<(s.size:Int)
 all_goals try (exfalso;omega)
 all_goals
  go_enter Tryz.func50,Tryz.ntmps50;go_wp2_with fail;refine(C.out _).mono ?_;rintro e w' ⟨rfl,rfl⟩;go_wp2_with fail;go_ret;exact⟨rfl,rfl⟩
theorem jy2 (hs:s.size<=maxLen):
 Calls Tryz.prog 50 #[.string s,.int .i64 most] w λ e w'=>e= .returned (.int .i64 (smN s most))/\∃ q,w'=w.drewN q:=
 (kt9 s most w hs).mono λ _ _ h=>⟨h.1,0,h.2.symm⟩
end
def okP (z:Int):Bool:=decide (1<=z/\z<=11)
def yU7 (zs:List Int):Int:=if 8<zs.length then 2 else if zs.all okP=true then 0 else 1
theorem YA3 {zs:List Int} {k:Nat} (h:¬8<zs.length) (hk:k<zs.length) (hb:okP zs[k]=false):yU7 zs=1:=by
 unfold yU7;rw [if_neg h,if_neg];intro h2;rw [List.all_eq_true] at h2;have:=h2 zs[k] (List.getElem_mem hk);rw [hb] at this;cases this
theorem yD5 {zs:List Int} (h:¬8<zs.length) (ha:∀ k (hk:k<zs.length),okP zs[k]=true):yU7 zs=0:=by
 unfold yU7;rw [if_neg h,if_pos];rw [List.all_eq_true];intro z hz;obtain⟨i,hi,rfl⟩:=List.mem_iff_getElem.1 hz;exact ha i hi
def IR (w:World) (A:Option Addr) (zs:List Int):Prop:=Reads w w.heap.size 1 A zs.length (zs.map (Value.int .i64))
theorem IR.at_ {w:World} {A:Option Addr} {zs:List Int} (h:IR w A zs) {k:Nat} (hk:k<zs.length):∃ ad,A=some ad/\ad.block<w.heap.size/\w.cell? (ad.add k)=some (.int .i64 zs[k]):=by
 obtain⟨ad,u,e,hb,hu,hc⟩:=Reads.at_ h hk;refine⟨ad,e,hb,?_⟩;rw [hc];simp only [List.getElem?_map,List.getElem?_eq_getElem hk,Option.map_some] at hu;exact hu.symm
theorem IR.below {w w':World} {A:Option Addr} {zs:List Int} (h:IR w A zs) (hb:Below w.heap.size w w'):IR w' A zs:=(Reads.below h hb).more hb.size
theorem zz6 (z:Int) (w:World):Calls Tryz.prog 101 #[.int .i64 z] w λ e w'=>e= .returned (.bool (!okP z))/\w=w':=by
 have hc:(z<1/\okP z=false)\/(¬z<1/\11<z/\okP z=false)\/(¬z<1/\¬11<z/\okP z=true):=by
  unfold okP;by_cases h1:z<1
  . exact .inl ⟨h1,decide_eq_false (by omega)⟩
  . by_cases h2:11<z
    . exact .inr (.inl ⟨h1,h2,decide_eq_false (by omega)⟩)
    . exact .inr (.inr ⟨h1,h2,decide_eq_true (by omega)⟩)
 obtain⟨o,ho⟩:∃ o,o=okP z:=⟨_,rfl⟩;rw [<-ho] at hc⊢;clear ho;rcases hc with⟨h1,rfl⟩|⟨h1,h2,rfl⟩|⟨h1,h2,rfl⟩
 all_goals
  go_enter Tryz.func101,Tryz.ntmps101;go_wp2_with fail;go_ret;exact⟨rfl,rfl⟩
section
variable (zs:List Int) (A:Option Addr) (c:Nat) (w:World)
def xF2 (zs:List Int) (w:World) (e:Ending) (w':World):Prop:=((∃ k:Nat,e= .returned (.int .i64 (k:Int))/\∃ hk:k<zs.length,okP zs[k]=false)\/(e= .returned (.int .i64 (-1))/\∀ k (hk:k<zs.length),okP zs[k]=true))/\w=w'
set_option maxHeartbeats 1000000 in
theorem Xr2 (h:IR w A zs) (hl:zs.length<=9223372036854775807):
 Calls Tryz.prog 131 #[.slice A zs.length c,.func (.func 101) #[] #[]] w (xF2 zs w):=by
 have HR:=qh h;clear h;go_enter Tryz.func131,Tryz.ntmps131;go_wp2_with fail;go_loop [8] (λ u=>∃ k:Nat,u= .int .i64 (k:Int)/\k<=zs.length/\Hid (∀ j (hj:j<zs.length),j<k->okP zs[j]=true)) (λ u=>zs.length-(intOf u).toNat)
 case atStart=>exact⟨0,rfl,by omega,λ j hj h=>absurd h (by omega)⟩
 case round=>
  obtain⟨k,rfl,hk,HA⟩:=hrel;by_cases hlk:k<zs.length
  . have k1:(k:Int)<(zs.length:Int):=(by omega);have k2:(0:Int)<=(k:Int):=(by omega);obtain⟨ad,rfl,_,y0⟩:=HR.out.at_ hlk;obtain⟨z,hz⟩:∃ z,z=zs[k]:=⟨_,rfl⟩;rw [<-hz] at y0;have C:=zz6 z w;cases hv:okP z with
    |true=>
     rw [hv] at C;have C:=qh C
     have HA2:Hid (∀ j (hj:j<zs.length),j<k+1->okP zs[j]=true):=λ j hj h=>by
      by_cases e:j=k
      . subst e;rw [<-hz];exact hv
      . exact HA.out j hj (by omega)
     clear hz hv;go_wp2_with fail;refine C.out.mono ?_;rintro e w' ⟨rfl,rfl⟩;go_wp2_with fail;go_round
     case rel=>exact⟨k+1,by go_num,by omega,HA2⟩
     case measure=>simp [intOf];omega
    |false=>
     rw [hv] at C;have C:=qh C;have HB:Hid (∃ hk:k<zs.length,okP zs[k]=false):=⟨hlk,by rw [<-hz];exact hv⟩;clear hz hv;go_wp2_with fail;refine C.out.mono ?_;rintro e w' ⟨rfl,rfl⟩;go_wp2_with fail;go_ret;exact⟨.inl ⟨k,rfl,HB.out⟩,rfl⟩
  . obtain rfl:k=zs.length:=(by omega);clear hlk;go_wp2_with fail;go_ret;exact⟨.inr ⟨rfl,λ j hj=>HA.out j hj hj⟩,rfl⟩
theorem jf9 (h:IR w A zs) (hl:zs.length<=8):
 Calls Tryz.prog 100 #[.slice A zs.length c,.func (.func 101) #[] #[]] w λ e w'=>e= .returned (.bool (!zs.all okP))/\w=w':=by
 have C:=qh (Xr2 zs A c w h (by omega));clear h;go_enter Tryz.func100,Tryz.ntmps100;go_wp2_with fail;refine C.out.mono ?_;rintro e w' ⟨hr,rfl⟩;rcases hr with⟨k,rfl,hk,hb⟩|⟨rfl,ha⟩
 . have HE:Hid ((!zs.all okP)=true):=by
    show _=_;rw [Bool.not_eq_true',Bool.eq_false_iff];intro h2;rw [List.all_eq_true] at h2;have:=h2 zs[k] (List.getElem_mem hk);rw [hb] at this;cases this
   have k1:(0:Int)<=(k:Int):=(by omega);clear hb;go_wp2_with fail;go_ret;exact⟨by rw [HE.out];rfl,rfl⟩
 . have HE:Hid ((!zs.all okP)=false):=by
    show _=_;rw [Bool.not_eq_false',List.all_eq_true];intro z hz;obtain⟨i,hi,rfl⟩:=List.mem_iff_getElem.1 hz;exact ha i hi
   clear ha;go_wp2_with fail;go_ret;exact⟨by rw [HE.out];rfl,rfl⟩
theorem qA0 (h:IR w A zs) (hl:zs.length<=9223372036854775807):
 Calls Tryz.prog 71 #[.slice A zs.length c] w λ e w'=>e= .returned (.int .i64 (yU7 zs))/\w=w':=by
 by_cases h1:8<zs.length
 . have d1:(8:Int)<(zs.length:Int):=(by omega);have HE:Hid (yU7 zs=2):=(by show _=_;unfold yU7;rw [if_pos h1]);clear h;go_enter Tryz.func71,Tryz.ntmps71;go_wp2_with fail;go_ret;exact⟨by rw [HE.out];rfl,rfl⟩
 . have d1:¬(8:Int)<(zs.length:Int):=(by omega);have C:=jf9 zs A c w h (by omega);have HE:Hid (yU7 zs=if zs.all okP=true then 0 else 1):=(by show _=_;unfold yU7;rw [if_neg h1]);obtain⟨b,hb⟩:∃ b,b=zs.all okP:=⟨_,rfl⟩;rw [<-hb] at C HE;clear h hb;cases b
   rotate_left
   all_goals
    have C:=qh C;go_enter Tryz.func71,Tryz.ntmps71;go_wp2_with fail;refine C.out.mono ?_;rintro e w' ⟨rfl,rfl⟩;go_wp2_with fail;go_ret;exact⟨by rw [HE.out];rfl,rfl⟩
set_option maxHeartbeats 1000000 in
theorem Jz0 (h:IR w A zs) (hl:zs.length<=9223372036854775807):
 Calls Tryz.prog 56 #[.slice A zs.length c] w λ e w'=>e= .returned (.int .i64 (yU7 zs))/\w=w':=by
 by_cases h1:8<zs.length
 . have d1:(8:Int)<(zs.length:Int):=(by omega);have HE:Hid (yU7 zs=2):=(by show _=_;unfold yU7;rw [if_pos h1]);clear h;go_enter Tryz.func56,Tryz.ntmps56;go_wp2_with fail;go_ret;exact⟨by rw [HE.out];rfl,rfl⟩
 . have d1:¬(8:Int)<(zs.length:Int):=(by omega);have HR:=qh h;clear h;go_enter Tryz.func56,Tryz.ntmps56;go_wp2_with fail;go_loop [3] (λ u=>∃ k:Nat,u= .int .i64 (k:Int)/\k<=zs.length/\Hid (∀ j (hj:j<zs.length),j<k->okP zs[j]=true)) (λ u=>zs.length-(intOf u).toNat)
   case atStart=>exact⟨0,rfl,by omega,λ j hj h=>absurd h (by omega)⟩
   case round=>
    obtain⟨k,rfl,hk,HA⟩:=hrel;by_cases hlk:k<zs.length
    . have k1:(k:Int)<(zs.length:Int):=(by omega);have k2:(0:Int)<=(k:Int):=(by omega);obtain⟨ad,rfl,_,y0⟩:=HR.out.at_ hlk;obtain⟨z,hz⟩:∃ z,z=zs[k]:=⟨_,rfl⟩;rw [<-hz] at y0;by_cases hok:1<=z/\z<=11
      . have HA2:Hid (∀ j (hj:j<zs.length),j<k+1->okP zs[j]=true):=λ j hj h=>by
         by_cases e:j=k
         . subst e;rw [<-hz];exact decide_eq_true hok
         . exact HA.out j hj (by omega)
        have g1:¬z<1:=(by omega);have g2:¬11<z:=(by omega);clear hz hok;go_wp2_with fail;go_round
        case rel=>exact⟨k+1,by go_num,by omega,HA2⟩
        case measure=>simp [intOf];omega
      . have HB:Hid (yU7 zs=1):=YA3 h1 hlk (by rw [<-hz];exact decide_eq_false hok);have hcs:z<1\/(¬z<1/\11<z):=(by omega);clear hz hok;rcases hcs with g1|⟨g1,g2⟩
        all_goals
         go_wp2_with fail;go_ret;exact⟨by rw [HB.out];rfl,rfl⟩
    . obtain rfl:k=zs.length:=(by omega);have HB:Hid (yU7 zs=0):=yD5 h1 λ j hj=>HA.out j hj hj
      clear hlk;go_wp2_with fail;go_ret;exact⟨by rw [HB.out];rfl,rfl⟩
end
theorem KK8 {α:Type} {cs:α->List Value} {sz:Nat} (hs:∀ a,(cs a).length=sz) (l:List α):(l.flatMap cs).length=l.length*sz:=by
 induction l with
 |nil=>simp
 |cons x l ih=>rw [List.flatMap_cons,List.length_append,ih,List.length_cons,hs,Nat.succ_mul];omega
theorem xW9 {α:Type} {cs:α->List Value} {sz:Nat} (hs:∀ a,(cs a).length=sz) {l:List α} {k j:Nat} {f:α} (h:l[k]? =some f) (hj:j<sz):(l.flatMap cs)[k*sz+j]? =(cs f)[j]? :=by
 obtain⟨hk,rfl⟩:=List.getElem?_eq_some_iff.1 h
 have e:l.flatMap cs=(l.take k).flatMap cs++(cs l[k]++(l.drop (k+1)).flatMap cs):=by
  conv=>lhs;rw [<-List.take_append_drop k l,List.drop_eq_getElem_cons hk]
  rw [List.flatMap_append,List.flatMap_cons]
 have hl:((l.take k).flatMap cs).length=k*sz:=by rw [KK8 hs,List.length_take,Nat.min_eq_left (by omega)]
 rw [e,List.getElem?_append_right (by omega),hl,Nat.add_sub_cancel_left,List.getElem?_append_left (by rw [hs];exact hj)]
theorem Xs0 {α:Type} {cs:α->List Value} {sz:Nat} (hs:∀ a,(cs a).length=sz) {w:World} {B:Nat} {A:Option Addr} {l:List α} (h:Reads w B sz A l.length (l.flatMap cs)) {k:Nat} {f:α} (hk:l[k]? =some f):
 ∃ ad,A=some ad/\ad.block<B/\(∀ u,(cs f)[0]? =some u->w.cell? (ad.add (k*sz))=some u)/\∀ j u,0<j->(cs f)[j]? =some u->w.cell? ⟨(ad.add (k*sz)).block,(ad.add (k*sz)).off+j,none⟩=some u:=by
 obtain⟨hkl,_⟩:=List.getElem?_eq_some_iff.1 hk;obtain⟨ad,e,hb,hc⟩:=h.2 (by omega)
 have key:∀ j u,(cs f)[j]? =some u->w.cell? ((ad.add (k*sz)).add j)=some u:=λ j u hu=>by
  have hj:j<sz:=by
   have:=(List.getElem?_eq_some_iff.1 hu).1;rw [hs] at this;exact this
  rw [jx6];exact hc _ _ (by rw [xW9 hs hk hj];exact hu)
 have sp:∀ (p:Addr) (j:Nat),0<j->p.add j=⟨p.block,p.off+j,none⟩:=λ p j hj=>by
  unfold Addr.add;rw [if_neg (by omega)]
 refine⟨ad,e,hb,λ u hu=> ?_,λ j u hj hu=> ?_⟩
 . have:=key 0 u hu;rw [jx6,Nat.add_zero] at this;exact this
 . rw [<-sp _ j hj];exact key j u hu
def Jf7:List ByteArray:= [⟨#[]⟩,⟨#[109,101,116,104,111,100]⟩,⟨#[116,97,114,103,101,116]⟩,⟨#[112,97,116,104]⟩,⟨#[113,117,101,114,121]⟩,⟨#[98,111,100,121]⟩,⟨#[97,114,103,115]⟩,⟨#[97,114,103,110,97,109,101,115]⟩,⟨#[102,105,101,108,100,115]⟩,⟨#[102,105,101,108,100,110,97,109,101,115]⟩,⟨#[99,111,111,107,105,101,115]⟩,⟨#[99,108,105,101,110,116]⟩,⟨#[115,99,111,114,101]⟩]
def Zd4:List ByteArray:= [⟨#[]⟩,⟨#[114,120]⟩,⟨#[112,104,114,97,115,101]⟩,⟨#[105,115]⟩,⟨#[104,97,115]⟩,⟨#[98,101,103,105,110,115]⟩,⟨#[101,110,100,115]⟩,⟨#[103,116]⟩,⟨#[108,116]⟩,⟨#[101,113]⟩,⟨#[110,101,116]⟩,⟨#[114,97,110,103,101]⟩,⟨#[97,110,121]⟩]
def XF4:List ByteArray:= [⟨#[]⟩,⟨#[112,97,115,115]⟩,⟨#[100,101,110,121]⟩,⟨#[115,99,111,114,101]⟩,⟨#[115,107,105,112]⟩,⟨#[97,108,108,111,119]⟩]
set_option maxRecDepth 100000 in
set_option maxHeartbeats 4000000 in
theorem zn7 (k:Nat) (hk:k<13) (w:World):Calls Tryz.prog 80 #[.int .i64 (k:Int)] w λ e w'=>e= .returned (.string (Jf7.getD k ByteArray.empty))/\w=w':=by
 have ix:∀ w,(Instr.index 60 (.agg #[.string ⟨#[]⟩,.string ⟨#[109,101,116,104,111,100]⟩,.string ⟨#[116,97,114,103,101,116]⟩,.string ⟨#[112,97,116,104]⟩,.string ⟨#[113,117,101,114,121]⟩,.string ⟨#[98,111,100,121]⟩,.string ⟨#[97,114,103,115]⟩,.string ⟨#[97,114,103,110,97,109,101,115]⟩,.string ⟨#[102,105,101,108,100,115]⟩,.string ⟨#[102,105,101,108,100,110,97,109,101,115]⟩,.string ⟨#[99,111,111,107,105,101,115]⟩,.string ⟨#[99,108,105,101,110,116]⟩,.string ⟨#[115,99,111,114,101]⟩]) (.int .i64 (k:Int))).run Tryz.prog w= .ok (.string (Jf7.getD k ByteArray.empty)) w:=λ w=>by
  obtain rfl|rfl|rfl|rfl|rfl|rfl|rfl|rfl|rfl|rfl|rfl|rfl|rfl:k=0\/k=1\/k=2\/k=3\/k=4\/k=5\/k=6\/k=7\/k=8\/k=9\/k=10\/k=11\/k=12:=by omega
  all_goals kernel_rfl
 obtain⟨S,hS⟩:∃ S,S=Jf7.getD k ByteArray.empty:=⟨_,rfl⟩;rw [<-hS] at ix⊢;clear hS hk;go_enter Tryz.func80,Tryz.ntmps80;go_wp2_with fail;go_ret;exact⟨rfl,rfl⟩
set_option maxRecDepth 100000 in
set_option maxHeartbeats 4000000 in
theorem kO0 (k:Nat) (hk:k<13) (w:World):Calls Tryz.prog 46 #[.int .i64 (k:Int)] w λ e w'=>e= .returned (.string (Zd4.getD k ByteArray.empty))/\w=w':=by
 have ix:∀ w,(Instr.index 60 (.agg #[.string ⟨#[]⟩,.string ⟨#[114,120]⟩,.string ⟨#[112,104,114,97,115,101]⟩,.string ⟨#[105,115]⟩,.string ⟨#[104,97,115]⟩,.string ⟨#[98,101,103,105,110,115]⟩,.string ⟨#[101,110,100,115]⟩,.string ⟨#[103,116]⟩,.string ⟨#[108,116]⟩,.string ⟨#[101,113]⟩,.string ⟨#[110,101,116]⟩,.string ⟨#[114,97,110,103,101]⟩,.string ⟨#[97,110,121]⟩]) (.int .i64 (k:Int))).run Tryz.prog w= .ok (.string (Zd4.getD k ByteArray.empty)) w:=λ w=>by
  obtain rfl|rfl|rfl|rfl|rfl|rfl|rfl|rfl|rfl|rfl|rfl|rfl|rfl:k=0\/k=1\/k=2\/k=3\/k=4\/k=5\/k=6\/k=7\/k=8\/k=9\/k=10\/k=11\/k=12:=by omega
  all_goals kernel_rfl
 obtain⟨S,hS⟩:∃ S,S=Zd4.getD k ByteArray.empty:=⟨_,rfl⟩;rw [<-hS] at ix⊢;clear hS hk;go_enter Tryz.func46,Tryz.ntmps46;go_wp2_with fail;go_ret;exact⟨rfl,rfl⟩
set_option maxRecDepth 100000 in
set_option maxHeartbeats 4000000 in
theorem Xk5 (k:Nat) (hk:k<6) (w:World):Calls Tryz.prog 81 #[.int .i64 (k:Int)] w λ e w'=>e= .returned (.string (XF4.getD k ByteArray.empty))/\w=w':=by
 have ix:∀ w,(Instr.index 61 (.agg #[.string ⟨#[]⟩,.string ⟨#[112,97,115,115]⟩,.string ⟨#[100,101,110,121]⟩,.string ⟨#[115,99,111,114,101]⟩,.string ⟨#[115,107,105,112]⟩,.string ⟨#[97,108,108,111,119]⟩]) (.int .i64 (k:Int))).run Tryz.prog w= .ok (.string (XF4.getD k ByteArray.empty)) w:=λ w=>by
  obtain rfl|rfl|rfl|rfl|rfl|rfl:k=0\/k=1\/k=2\/k=3\/k=4\/k=5:=by omega
  all_goals kernel_rfl
 obtain⟨S,hS⟩:∃ S,S=XF4.getD k ByteArray.empty:=⟨_,rfl⟩;rw [<-hS] at ix⊢;clear hS hk;go_enter Tryz.func81,Tryz.ntmps81;go_wp2_with fail;go_ret;exact⟨rfl,rfl⟩
def y77 (L:List ByteArray) (x:ByteArray):Nat->Nat->Int
 |0,_=>0
 |n+1,k=>if L.getD k ByteArray.empty=x then (k:Int) else y77 L x n (k+1)
def plW (L:List ByteArray) (x:ByteArray):Int:=y77 L x (L.length-1) 1
theorem Kb0 {a b:ByteArray} (h:a=b):(a.toList==b.toList)=true:=by rw [h];exact beq_self_eq_true _
theorem yC2 {a b:ByteArray} (h:¬a=b):(a.toList==b.toList)=false:=by
 rw [beq_eq_false_iff_ne];intro e;rw [Lib.toList_data,Lib.toList_data] at e;exact h (zH9 e)
theorem kQ1 (L:List ByteArray) (x:ByteArray):∀ n k,0<=y77 L x n k
 |0,k=>by simp only [y77];omega
 |n+1,k=>by
  unfold y77;split
  . omega
  . exact kQ1 L x n (k+1)
theorem zS1 (L:List ByteArray) (x:ByteArray):0<=plW L x:=kQ1 L x _ _
set_option maxHeartbeats 2000000 in
theorem zs4 (x:ByteArray) (w:World):
 Calls Tryz.prog 45 #[.string x,.int .i64 12,.func (.func 80) #[] #[]] w λ e w'=>e= .returned (.int .i64 (plW Jf7 x))/\w=w':=by
 obtain⟨R,hR⟩:∃ R,R=plW Jf7 x:=⟨_,rfl⟩;rw [<-hR];have HR:=qh (show R=y77 Jf7 x (13-1) 1 from hR);clear hR;go_enter Tryz.func45,Tryz.ntmps45;go_wp2_with fail;go_loop [7] (λ u=>∃ k:Nat,u= .int .i64 (k:Int)/\1<=k/\k<=13/\Hid (R=y77 Jf7 x (13-k) k)) (λ u=>13-(intOf u).toNat)
 case atStart=>exact⟨1,rfl,Nat.le_refl _,by omega,HR⟩
 case round=>
  obtain⟨k,rfl,hk1,hk,HA⟩:=hrel;have kw:IntKind.i64.wrap ((k:Int)+1)=(k:Int)+1:=IntWalk.i64_in _ (by omega);by_cases hlk:k<13
  . have k1:decide ((k:Int)<=12)=true:=decide_eq_true (by omega);have C:=qh (zn7 k hlk w);have hs:13-k=(13-(k+1))+1:=(by omega);have HA2:Hid (R=if Jf7.getD k ByteArray.empty=x then (k:Int) else y77 Jf7 x (13-(k+1)) (k+1)):=qh (by rw [HA.out,hs];rfl);obtain⟨S,hS⟩:∃ S,S=Jf7.getD k ByteArray.empty:=⟨_,rfl⟩;rw [<-hS] at C HA2;clear hS HA hs;by_cases he:S=x
    . have e1:=Kb0 he;have HR2:Hid (R=(k:Int)):=qh (by rw [HA2.out,if_pos he]);clear he HA2;go_wp2_with fail;refine C.out.mono ?_;rintro e w' ⟨rfl,rfl⟩;go_wp2_with fail;go_ret;exact⟨by rw [HR2.out];rfl,rfl⟩
    . have e1:=yC2 he;have HR2:Hid (R=y77 Jf7 x (13-(k+1)) (k+1)):=qh (by rw [HA2.out,if_neg he]);clear he HA2;go_wp2_with fail;refine C.out.mono ?_;rintro e w' ⟨rfl,rfl⟩;go_wp2_with fail;go_round
      case rel=>exact⟨k+1,by go_num,by omega,by omega,HR2⟩
      case measure=>simp [intOf];omega
  . have k1:decide ((k:Int)<=12)=false:=decide_eq_false (by omega);have HR2:Hid (R=0):=qh (by rw [HA.out,show 13-k=0 by omega];rfl);clear HA;go_wp2_with fail;go_ret;exact⟨by rw [HR2.out];rfl,rfl⟩
set_option maxHeartbeats 2000000 in
theorem kx8 (x:ByteArray) (w:World):
 Calls Tryz.prog 45 #[.string x,.int .i64 12,.func (.func 46) #[] #[]] w λ e w'=>e= .returned (.int .i64 (plW Zd4 x))/\w=w':=by
 obtain⟨R,hR⟩:∃ R,R=plW Zd4 x:=⟨_,rfl⟩;rw [<-hR];have HR:=qh (show R=y77 Zd4 x (13-1) 1 from hR);clear hR;go_enter Tryz.func45,Tryz.ntmps45;go_wp2_with fail;go_loop [7] (λ u=>∃ k:Nat,u= .int .i64 (k:Int)/\1<=k/\k<=13/\Hid (R=y77 Zd4 x (13-k) k)) (λ u=>13-(intOf u).toNat)
 case atStart=>exact⟨1,rfl,Nat.le_refl _,by omega,HR⟩
 case round=>
  obtain⟨k,rfl,hk1,hk,HA⟩:=hrel;have kw:IntKind.i64.wrap ((k:Int)+1)=(k:Int)+1:=IntWalk.i64_in _ (by omega);by_cases hlk:k<13
  . have k1:decide ((k:Int)<=12)=true:=decide_eq_true (by omega);have C:=qh (kO0 k hlk w);have hs:13-k=(13-(k+1))+1:=(by omega);have HA2:Hid (R=if Zd4.getD k ByteArray.empty=x then (k:Int) else y77 Zd4 x (13-(k+1)) (k+1)):=qh (by rw [HA.out,hs];rfl);obtain⟨S,hS⟩:∃ S,S=Zd4.getD k ByteArray.empty:=⟨_,rfl⟩;rw [<-hS] at C HA2;clear hS HA hs;by_cases he:S=x
    . have e1:=Kb0 he;have HR2:Hid (R=(k:Int)):=qh (by rw [HA2.out,if_pos he]);clear he HA2;go_wp2_with fail;refine C.out.mono ?_;rintro e w' ⟨rfl,rfl⟩;go_wp2_with fail;go_ret;exact⟨by rw [HR2.out];rfl,rfl⟩
    . have e1:=yC2 he;have HR2:Hid (R=y77 Zd4 x (13-(k+1)) (k+1)):=qh (by rw [HA2.out,if_neg he]);clear he HA2;go_wp2_with fail;refine C.out.mono ?_;rintro e w' ⟨rfl,rfl⟩;go_wp2_with fail;go_round
      case rel=>exact⟨k+1,by go_num,by omega,by omega,HR2⟩
      case measure=>simp [intOf];omega
  . have k1:decide ((k:Int)<=12)=false:=decide_eq_false (by omega);have HR2:Hid (R=0):=qh (by rw [HA.out,show 13-k=0 by omega];rfl);clear HA;go_wp2_with fail;go_ret;exact⟨by rw [HR2.out];rfl,rfl⟩
set_option maxHeartbeats 2000000 in
theorem Zi3 (x:ByteArray) (w:World):
 Calls Tryz.prog 45 #[.string x,.int .i64 5,.func (.func 81) #[] #[]] w λ e w'=>e= .returned (.int .i64 (plW XF4 x))/\w=w':=by
 obtain⟨R,hR⟩:∃ R,R=plW XF4 x:=⟨_,rfl⟩;rw [<-hR];have HR:=qh (show R=y77 XF4 x (6-1) 1 from hR);clear hR;go_enter Tryz.func45,Tryz.ntmps45;go_wp2_with fail;go_loop [7] (λ u=>∃ k:Nat,u= .int .i64 (k:Int)/\1<=k/\k<=6/\Hid (R=y77 XF4 x (6-k) k)) (λ u=>6-(intOf u).toNat)
 case atStart=>exact⟨1,rfl,Nat.le_refl _,by omega,HR⟩
 case round=>
  obtain⟨k,rfl,hk1,hk,HA⟩:=hrel;have kw:IntKind.i64.wrap ((k:Int)+1)=(k:Int)+1:=IntWalk.i64_in _ (by omega);by_cases hlk:k<6
  . have k1:decide ((k:Int)<=5)=true:=decide_eq_true (by omega);have C:=qh (Xk5 k hlk w);have hs:6-k=(6-(k+1))+1:=(by omega);have HA2:Hid (R=if XF4.getD k ByteArray.empty=x then (k:Int) else y77 XF4 x (6-(k+1)) (k+1)):=qh (by rw [HA.out,hs];rfl);obtain⟨S,hS⟩:∃ S,S=XF4.getD k ByteArray.empty:=⟨_,rfl⟩;rw [<-hS] at C HA2;clear hS HA hs;by_cases he:S=x
    . have e1:=Kb0 he;have HR2:Hid (R=(k:Int)):=qh (by rw [HA2.out,if_pos he]);clear he HA2;go_wp2_with fail;refine C.out.mono ?_;rintro e w' ⟨rfl,rfl⟩;go_wp2_with fail;go_ret;exact⟨by rw [HR2.out];rfl,rfl⟩
    . have e1:=yC2 he;have HR2:Hid (R=y77 XF4 x (6-(k+1)) (k+1)):=qh (by rw [HA2.out,if_neg he]);clear he HA2;go_wp2_with fail;refine C.out.mono ?_;rintro e w' ⟨rfl,rfl⟩;go_wp2_with fail;go_round
      case rel=>exact⟨k+1,by go_num,by omega,by omega,HR2⟩
      case measure=>simp [intOf];omega
  . have k1:decide ((k:Int)<=5)=false:=decide_eq_false (by omega);have HR2:Hid (R=0):=qh (by rw [HA.out,show 6-k=0 by omega];rfl);clear HA;go_wp2_with fail;go_ret;exact⟨by rw [HR2.out];rfl,rfl⟩
theorem qm6 (l:List UInt8):Zy1 10 l=true->0<=Jz6 10 l/\Jz6 10 l+1<=((10^l.length:Nat):Int):=by
 induction l using XO4 with
 |h0=>intro _;simp [Jz6]
 |h1 l b ih=>
  intro h;rw [qB0,Bool.and_eq_true,Bool.and_eq_true,decide_eq_true_iff,decide_eq_true_iff] at h;obtain⟨h1,h2,h3⟩:=h;obtain⟨i1,i2⟩:=ih h1;rw [zN7,List.length_append,List.length_singleton,Nat.pow_succ];omega
theorem Ks9 {s:ByteArray} (h:qH0 10 9 s=0):zE8 10 9 s<=999999999:=by
 unfold qH0 at h;unfold zE8;split at h
 . rename_i hb
   rw [if_pos hb];unfold X76 at hb;rw [Bool.and_eq_true,Bool.and_eq_true,decide_eq_true_eq,decide_eq_true_eq] at hb;have h1:=(qm6 _ hb.1.1).2;have h2:10^s.data.toList.length<=10^9:=Nat.pow_le_pow_right (by omega) (by rw [qX6];omega);have h3:10^9=1000000000:=(by decide);omega
 . omega
def rnN (s:ByteArray):Int:=smN s 999999999
theorem XQ5 (s:ByteArray):(qH0 10 9 s=4/\rnN s= -1)\/(∃ h:0<s.size,qH0 10 9 s=0/\((s[0].toNat:Int)==48)=false/\rnN s=zE8 10 9 s)\/(∃ h:0<s.size,qH0 10 9 s=0/\((s[0].toNat:Int)==48)=true/\¬(1:Int)<(s.size:Int)/\rnN s=zE8 10 9 s)\/(∃ h:0<s.size,qH0 10 9 s=0/\((s[0].toNat:Int)==48)=true/\(1:Int)<(s.size:Int)/\rnN s= -1):=by
 rcases kC5 s 999999999 with h|⟨h1,h2,h3⟩|⟨h0,h1,h2,h3,h4⟩|⟨h0,h1,h2,h3,h4,h5⟩|⟨h0,h1,h2,h3,h4,h5⟩
 . exact .inl h
 . exact absurd h2 (by have:=Ks9 h1;omega)
 . exact .inr (.inl ⟨h0,h1,h3,h4⟩)
 . exact .inr (.inr (.inl ⟨h0,h1,h3,h4,h5⟩))
 . exact .inr (.inr (.inr ⟨h0,h1,h3,h4,h5⟩))
set_option maxHeartbeats 1000000 in
theorem zh5 (s:ByteArray) (w:World) (hs:s.size<=maxLen):
 Calls Tryz.prog 14 #[.string s] w λ e w'=>e= .returned (.int .i64 (rnN s))/\w=w':=by
 have C:=qh λ w'=>Yj3 s w' hs
 have hcs:=XQ5 s;unfold maxLen at hs;obtain⟨N,hN⟩:∃ N,N=zE8 10 9 s:=⟨_,rfl⟩;obtain⟨E,hE⟩:∃ E,E=qH0 10 9 s:=⟨_,rfl⟩;obtain⟨R,hR⟩:∃ R,R=rnN s:=⟨_,rfl⟩;rw [<-hN,<-hE] at C;rw [<-hN,<-hE,<-hR] at hcs;rw [<-hR];clear hN hE hR;rcases hcs with⟨rfl,rfl⟩|⟨h0,rfl,h2,rfl⟩|⟨h0,rfl,h2,h3,rfl⟩|⟨h0,rfl,h2,h3,rfl⟩
 all_goals
  go_enter Tryz.func14,Tryz.ntmps14;go_wp2_with fail;refine(C.out _).mono ?_;rintro e w' ⟨rfl,rfl⟩;go_wp2_with fail;go_ret;exact⟨rfl,rfl⟩
end Go.Proofs.YtngepacmgabmaaaGreatDoor
