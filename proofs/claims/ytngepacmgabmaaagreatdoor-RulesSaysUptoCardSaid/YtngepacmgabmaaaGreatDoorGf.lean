/- Walks: wickref.Split, wickref.Pieces, wi; strings.Split in the words of wickref.Pi .. -/
import Derived.Test.YtngepacmgabmaaaGreatDoorGe
import Derived.BigRegion
namespace Go.Proofs.YtngepacmgabmaaaGreatDoor
open Go.RowKit
set_option linter.unusedVariables false
set_option linter.unusedSimpArgs false
def pcs (s t:ByteArray):List ByteArray:=Lib.splitB t 0 (Lib.countB s t) s
theorem xR1 {s t:ByteArray} (h:Lib.indexB s t= -1):pcs s t= [s]:=by unfold pcs;exact Lib.splitB_miss _ _ _ _ h
theorem j06 {s t:ByteArray} {i:Nat} (h1:1<=t.size) (h:Lib.indexB s t=i):pcs s t=s.extract 0 i::pcs (s.extract (i+t.size) s.size) t:=by
 unfold pcs;rw [Lib.countB_hit s t i h1 h,Nat.add_comm 1,Lib.splitB_hit _ _ _ _ _ h];rfl
theorem zW4 {s t:ByteArray} (h1:1<=t.size):(pcs s t).length=Lib.countB s t+1:=Lib.splitB_all t h1 0 _ s rfl
theorem jy8 {s t:ByteArray} (h1:1<=t.size):(pcs s t).length<=s.size+1:=by rw [zW4 h1];have:=Lib.countB_le t h1 s.size s (Nat.le_refl _);omega
theorem Qw2 (s t:ByteArray) (h1:1<=t.size):0<(pcs s t).length:=by rw [zW4 h1];omega
theorem zN9 (t:ByteArray) (h1:1<=t.size):∀ (n:Nat) (s:ByteArray),s.size<=n->∀ x∈pcs s t,x.size<=s.size
 |n,s,hn,x,hx=>by
  rcases Lib.indexB_cases s t with h|⟨i,h,hr⟩
  . rw [xR1 h,List.mem_singleton] at hx;rw [hx];exact Nat.le_refl _
  . rw [j06 h1 h,List.mem_cons] at hx;have e2:(s.extract (i+t.size) s.size).size=s.size-(i+t.size):=(by rw [ByteArray.size_extract];omega);rcases hx with rfl|hx
    . rw [ByteArray.size_extract];omega
    . match n with
      |0=>omega
      |n+1=>have:=zN9 t h1 n _ (by omega) x hx;omega
set_option maxHeartbeats 1000000 in
theorem kK5 (s t:ByteArray) (w:World) (hs:s.size<=1048576) (ht:t.size<=140737488355328) (h1:1<=t.size):
 Calls Tryz.prog 17 #[.string s,.string t] w λ e w'=>∃ v,e= .returned v/\OS w' w.heap.size v (pcs s t)/\Below w.heap.size w w':=by
 go_enter Tryz.func17,Tryz.ntmps17;go_wp2_with fail;go_loopw [0,5] (λ x v wr=>∃ (S:ByteArray) (D:List ByteArray),x= .string S/\D.length+S.size<=s.size/\Hid (pcs s t=D++pcs S t)/\OS wr w.heap.size v D/\Below w.heap.size w wr) (λ x _ _=>match x with| .string S=>S.size|_=>0)
 case atStart=>exact⟨s,[],rfl,by simp,rfl,OS.nil _ _,Below.refl _ _⟩
 case round=>
  obtain⟨S,D,rfl,hS,HP,ho,hb⟩:=hrel;have HO:=qh ho;have HB:=qh hb;have hsz:w.heap.size<=wr.heap.size:=hb.size;clear ho hb;rcases Lib.indexB_cases S t with h|⟨i,h,hr⟩
  . have CS:=qh (ju1 S t wr (by omega) ht h);have HR:Hid (pcs s t=D++ [S]):=(by show _=_;rw [HP.out,xR1 h]);clear h;go_wp2_with fail;refine CS.out.mono ?_;rintro e w1 ⟨rfl,q,rfl⟩;go_wp2_with (at_builtin;refine jN8 rfl (.tmp 16) (.tmp 18) rfl (HO.out.drewN q) rfl S rfl (by omega) hsz ?_;intro v' w2 ho2 hg2 hb2;have HO2:=qh ho2;have HB2:=qh hb2;clear ho2 hg2 hb2);go_ret;exact⟨_,rfl,by rw [HR.out];exact HO2.out,(below_drewN HB.out q).trans HB2.out⟩
  . have CS:=qh (QJ2 S t wr (by omega) ht i h hr);have HR:Hid (pcs s t=(D++ [S.extract 0 i])++pcs (S.extract (i+t.size) S.size) t):=(by show _=_;rw [HP.out,j06 h1 h];simp);have e2:(S.extract (i+t.size) S.size).size=S.size-(i+t.size):=(by rw [ByteArray.size_extract];omega);obtain⟨S2,hS2⟩:∃ S2,S2=S.extract (i+t.size) S.size:=⟨_,rfl⟩;obtain⟨P,hP⟩:∃ P,P=S.extract 0 i:=⟨_,rfl⟩;rw [<-hS2] at HR e2 CS;rw [<-hP] at HR CS;clear h hS2 hP;have hS2:S2.size<S.size:=(by omega);have hS3:D.length+1+S2.size<=s.size:=(by omega);clear e2;go_wp2_with fail;refine CS.out.mono ?_;rintro e w1 ⟨rfl,q,rfl⟩;go_wp2_with (at_builtin;refine jN8 rfl (.tmp 16) (.tmp 18) rfl (HO.out.drewN q) rfl P rfl (by omega) hsz ?_;intro v' w2 ho2 hg2 hb2;have HO2:=qh ho2;have HB2:=qh hb2;clear ho2 hg2 hb2);go_roundw
    case rel=>exact⟨S2,D++ [P],rfl,by rw [List.length_append,List.length_singleton];exact hS3,HR,HO2.out,(below_drewN HB.out q).trans HB2.out⟩
    case measure=>exact hS2
theorem qQ5 (s t:ByteArray) (m:Int) (w:World) (hs:s.size<=1048576) (hm:w.cell? ⟨4,0,none⟩=some (.int .i64 m)) (h1:1<=t.size):
 Calls Tryz.prog 13 #[.string s,.string t] w λ e w'=>e= .returned (.slice (some ⟨w.heap.size,0,none⟩) (pcs s t).length (pcs s t).length)/\OS w' w.heap.size (.slice (some ⟨w.heap.size,0,none⟩) (pcs s t).length (pcs s t).length) (pcs s t)/\Below w.heap.size w w':=by
 have hl:=zW4 (s:=s) h1;have hle:=jy8 (s:=s) h1;refine(Tryz.strings_Split s t m w (by omega) hm h1).mono λ e w' ⟨h2,h3⟩=> ?_
 refine⟨by rw [h2,hl],?_,by rw [h3];exact(Below.refl _ _).alloc (Nat.le_refl _) _⟩;rw [h3];have:=World.ownsRow_lit (base:=w.heap.size) (e:=9) (size:=1) w ((pcs s t).map Value.string).toArray (pcs s t).length (Nat.le_refl _) (by unfold maxLen;omega) (by simp);exact this
def jk (sep:List UInt8) (xs:List ByteArray):Nat->List UInt8
 |0=> []
 |k+1=>jk sep xs k++(if 0<k then sep else [])++(xs.getD k ⟨#[]⟩).data.toList
theorem K87 (sep:List UInt8) (x:ByteArray) (r:List ByteArray):∀ k,k<=r.length->jk sep (x::r) (k+1)=x.data.toList++Lib.joinTail sep ((dl r).take k)
 |0,_=>by simp [jk,Lib.joinTail]
 |k+1,h=>by
  rw [jk,K87 sep x r k (by omega),if_pos (by omega)];have hk:(dl r)[k]? =some (r[k]'(by omega)).data.toList:=by rw [List.getElem?_map,List.getElem?_eq_getElem (by omega)];rfl
  rw [Lib.joinTail_take_succ sep _ k _ hk];have hg:((x::r).getD (k+1) ⟨#[]⟩)=r[k]'(by omega):=by rw [List.getD,List.getElem?_cons_succ,List.getElem?_eq_getElem (by omega)];rfl
  rw [hg];simp [List.append_assoc]
theorem kc8 (sep:List UInt8) (xs:List ByteArray):jk sep xs xs.length=Lib.join (dl xs) sep:=by
 cases xs with
 |nil=>rfl
 |cons x r=>
  rw [List.length_cons,K87 sep x r r.length (Nat.le_refl _),show dl (x::r)=x.data.toList::dl r from rfl,Lib.join_cons,List.take_of_length_le (by rw [List.length_map];exact Nat.le_refl _)]
theorem XF7 (sep:List UInt8) (xs:List ByteArray) (k:Nat):∀ n,k<=n->(jk sep xs k).length<=(jk sep xs n).length
 |0,h=>by rw [show k=0 by omega];exact Nat.le_refl _
 |n+1,h=>by
  by_cases e:k=n+1
  . rw [e];exact Nat.le_refl _
  . have:=XF7 sep xs k n (by omega);rw [jk,List.length_append,List.length_append];omega
theorem XP5 (sep:List UInt8) (xs:List ByteArray) (h:0<xs.length):jk sep xs 1=xs[0].data.toList:=by
 rw [jk,jk,if_neg (by omega),List.getD,List.getElem?_eq_getElem h];simp
theorem KI5 (sep:List UInt8) (xs:List ByteArray) (k:Nat) (h:k+1<xs.length):jk sep xs (k+1+1)=jk sep xs (k+1)++sep++xs[k+1].data.toList:=by
 rw [jk,if_pos (by omega),List.getD,List.getElem?_eq_getElem h];rfl
set_option maxHeartbeats 1000000 in
theorem z16 (A:Option Addr) (c:Nat) (xs:List ByteArray) (sep:ByteArray) (w:World) (B:Nat) (ho:OS w B (.slice A xs.length c) xs) (hj:(Lib.join (dl xs) sep.data.toList).length<=140737488355320):
 Calls Tryz.prog 28 #[.slice A xs.length c,.string sep] w λ e w'=>e= .returned (.string (str (Lib.join (dl xs) sep.data.toList)))/\w=w':=by
 have HO:=qh ho;have hmx:=ho.len_max;rw [<-kc8] at hj;have hmono:Hid (∀ k,k<=xs.length->(jk sep.data.toList xs k).length<=140737488355320):=λ k hk=>Nat.le_trans (XF7 _ _ k _ hk) hj
 clear ho hj;go_enter Tryz.func28,Tryz.ntmps28;go_wp2_with fail;go_loop [5,6] (λ v i=>∃ k:Nat,k<=xs.length/\i= .int .i64 k/\v= .string (str (jk sep.data.toList xs k))) (λ _ i=>xs.length-(intOf i).toNat)
 case atStart=>exact⟨0,by omega,rfl,rfl⟩
 case round=>
  obtain⟨k,hk,rfl,rfl⟩:=hrel;by_cases hlt:k<xs.length
  . obtain⟨g,rfl,_,_,hnc,hc⟩:=HO.out.at_ (by omega);have hcell:=hc k hlt;clear hc;rcases k with _|k
    . have hJ:=XP5 sep.data.toList xs hlt;have hb:=hmono.out 1 hlt;rw [hJ,qX6] at hb;have HJ:=qh hJ;clear hJ;obtain⟨X,hX⟩:∃ X,X=xs[0]:=⟨_,rfl⟩;rw [<-hX] at hcell hb;have HX:=qh hX;clear hX;rw [show jk sep.data.toList xs 0= [] from rfl];go_wp2_with fail;go_round
      case rel=>exact⟨1,by omega,by go_num,kg2 (by apply zH9;rw [HJ.out,Qe9,HX.out];simp)⟩
      case measure=>simp [intOf];omega
    . have hJ:=KI5 sep.data.toList xs k hlt;have hb:=hmono.out (k+1+1) hlt;rw [hJ,List.length_append,List.length_append,qX6,qX6] at hb;have HJ:=qh hJ;clear hJ;obtain⟨L,hL⟩:∃ L,L=jk sep.data.toList xs (k+1):=⟨_,rfl⟩;obtain⟨X,hX⟩:∃ X,X=xs[k+1]:=⟨_,rfl⟩;rw [<-hX] at hcell hb;rw [<-hL] at hb⊢;have hls:(str L).size+sep.size+X.size<=140737488355320:=(by rw [Xp5];exact hb);have HX:=qh hX;have HL:=qh hL;clear hX hL;go_wp2_with fail;go_round
      case rel=>exact⟨k+1+1,by omega,by go_num,kg2 (by apply zH9;rw [HJ.out,Qe9,<-HX.out,<-HL.out,Qr0,Qr0,Qe9])⟩
      case measure=>simp [intOf];omega
  . obtain rfl:k=xs.length:=(by omega);have HF:=qh (kc8 sep.data.toList xs);obtain⟨L,hL⟩:∃ L,L=jk sep.data.toList xs xs.length:=⟨_,rfl⟩;rw [<-hL];have HL:=qh hL;clear hL;go_wp2_with fail;go_ret;exact⟨Zf7 (by rw [HL.out,HF.out]),rfl⟩
theorem z71 (A:Option Addr) (c:Nat) (xs:List ByteArray) (t:ByteArray) (w:World) (B:Nat) (ho:OS w B (.slice A xs.length c) xs) (hN:xs.length<=140737488355320) (hj:(Lib.join (dl xs) t.data.toList).length<=140737488355320):
 Calls Tryz.prog 62 #[.slice A xs.length c,.string t] w λ e w'=>e= .returned (.string (str (Lib.join (dl xs) t.data.toList)))/\Below w.heap.size w w':=by
 by_cases h0:xs.length=0
 . have:xs= []:=List.eq_nil_of_length_eq_zero h0;subst this;exact(Tryz.strings_Join_none A c t w).mono λ e w' ⟨h1,h2⟩=>⟨h1,by rw [h2];exact Below.refl _ _⟩
 . obtain⟨g,rfl,_,hg,hc,hcell⟩:=ho.at_ (by omega)
   exact Tryz.strings_Join g 0 c xs t w (λ j x hx=>by
    rw [Nat.zero_add];obtain⟨hj,rfl⟩:=List.getElem?_eq_some_iff.1 hx;exact hcell j hj) hg (by omega) hc (Nat.le_trans hj (by decide))
theorem isE (s:ByteArray):s.toList.isEmpty=decide (s.size=0):=by
 rw [Bool.eq_iff_iff,List.isEmpty_iff,decide_eq_true_iff,Lib.toList_data];rw [<-qX6];exact List.length_eq_zero_iff.symm
theorem dT {p:Prop} [Decidable p] (h:p):decide p=true:=decide_eq_true h
theorem dF {p:Prop} [Decidable p] (h:¬p):decide p=false:=decide_eq_false h
theorem zT5 (b:UInt8):nmB b=true<->(97<=b.toNat/\b.toNat<=122)\/(48<=b.toNat/\b.toNat<=57)\/b.toNat=45\/b.toNat=95:=by
 unfold nmB;simp only [Bool.or_eq_true,decide_eq_true_eq,beq_iff_eq,or_assoc]
section
variable (s:ByteArray) (w:World)
set_option maxHeartbeats 1000000 in
theorem k90 (hs:s.size<=9223372036854775807):Calls Tryz.prog 99 #[.string s] w λ e w'=>e= .returned (.bool (nmS s))/\w'=w:=by
 obtain⟨R,hR⟩:∃ R,R=nmS s:=⟨_,rfl⟩;have HR:=qh hR;rw [<-hR];clear hR;go_enter Tryz.func99,Tryz.ntmps99;go_wp2_with fail;go_loop [7] (λ u=>∃ k:Nat,u= .int .i64 (k:Int)/\k<=s.size/\Hid (∀ j (hj:j<s.size),j<k->nmB s[j]=true)) (λ u=>s.size-(intOf u).toNat)
 case atStart=>exact⟨0,rfl,Nat.zero_le _,qh λ j hj h=>absurd h (Nat.not_lt_zero _)⟩
 case round=>
  obtain⟨k,rfl,hk,HA⟩:=hrel;by_cases hlk:k<s.size
  . have k1:(k:Int)<(s.size:Int):=(by omega);have k0:(0:Int)<=(k:Int):=(by omega);have kw:IntKind.i64.wrap ((k:Int)+1)=(k:Int)+1:=IntWalk.i64_in _ (by omega);by_cases hok:nmB s[k]=true
    . have HA2:Hid (∀ j (hj:j<s.size),j<k+1->nmB s[j]=true):=qh λ j hj h=>by
       by_cases e:j=k
       . subst e;exact hok
       . exact HA.out j hj (by omega)
      have hcs:=(zT5 _).1 hok;clear hok HA;rcases hcs with h|h|h|h
      focus
       have d1:decide ((s[k].toNat:Int)<97)=false:=dF (by omega);have d2:decide ((122:Int)<(s[k].toNat:Int))=false:=dF (by omega)
      rotate_left
      focus
       have d1:decide ((s[k].toNat:Int)<97)=true:=dT (by omega);have d2:decide ((s[k].toNat:Int)<48)=false:=dF (by omega);have d3:decide ((57:Int)<(s[k].toNat:Int))=false:=dF (by omega)
      rotate_left
      focus
       have d1:decide ((s[k].toNat:Int)<97)=true:=dT (by omega);have d2:decide ((s[k].toNat:Int)<48)=true:=dT (by omega);have d3:((s[k].toNat:Int) !=45)=false:=bne_eq_false_iff_eq.2 (by omega)
      rotate_left
      focus
       have d1:decide ((s[k].toNat:Int)<97)=true:=dT (by omega);have d2:decide ((s[k].toNat:Int)<48)=false:=dF (by omega);have d3:decide ((57:Int)<(s[k].toNat:Int))=true:=dT (by omega);have d4:((s[k].toNat:Int) !=45)=true:=bne_iff_ne.2 (by omega);have d5:((s[k].toNat:Int) !=95)=false:=bne_eq_false_iff_eq.2 (by omega)
      all_goals
       clear h;go_wp2_with fail;go_round
       case rel=>exact⟨k+1,by go_num,by omega,HA2⟩
       case measure=>simp [intOf];omega
    . have HE:Hid (R=false):=qh (by
       rw [HR.out];unfold nmS
       have:s.data.toList.all nmB=false:=by
        rw [Bool.eq_false_iff];intro h;rw [List.all_eq_true] at h;refine hok (h _ ?_);have hl:k<s.data.toList.length:=(by rw [qX6];exact hlk);have:=List.getElem_mem hl;exact this
       rw [this];rfl)
      have hcs:(122<s[k].toNat)\/(57<s[k].toNat/\s[k].toNat<97/\¬s[k].toNat=95)\/(s[k].toNat<48/\¬s[k].toNat=45):=by
       have h1:¬((97<=s[k].toNat/\s[k].toNat<=122)\/(48<=s[k].toNat/\s[k].toNat<=57)\/s[k].toNat=45\/s[k].toNat=95):=λ h=>hok ((zT5 _).2 h)
       omega
      clear hok HA HR;rcases hcs with h|h|h
      focus
       have d1:decide ((s[k].toNat:Int)<97)=false:=dF (by omega);have d2:decide ((122:Int)<(s[k].toNat:Int))=true:=dT (by omega);have d3:decide ((s[k].toNat:Int)<48)=false:=dF (by omega);have d4:decide ((57:Int)<(s[k].toNat:Int))=true:=dT (by omega)
      rotate_left
      focus
       have d1:decide ((s[k].toNat:Int)<97)=true:=dT (by omega);have d3:decide ((s[k].toNat:Int)<48)=false:=dF (by omega);have d4:decide ((57:Int)<(s[k].toNat:Int))=true:=dT (by omega)
      rotate_left
      focus
       have d1:decide ((s[k].toNat:Int)<97)=true:=dT (by omega);have d3:decide ((s[k].toNat:Int)<48)=true:=dT (by omega)
      all_goals
       have d5:((s[k].toNat:Int) !=45)=true:=bne_iff_ne.2 (by omega);have d6:((s[k].toNat:Int) !=95)=true:=bne_iff_ne.2 (by omega);clear h;go_wp2_with fail;go_ret;exact⟨by rw [HE.out];rfl,rfl⟩
  . obtain rfl:k=s.size:=by omega
    have HE:Hid (R=(decide ((1:Int)<=(s.size:Int))&&decide ((s.size:Int)<=20))):=qh (by
     rw [HR.out];unfold nmS
     have h1:s.data.toList.all nmB=true:=by
      rw [List.all_eq_true];intro b hb;obtain⟨i,hi,rfl⟩:=List.mem_iff_getElem.1 hb;have hi2:i<s.size:=(by rw [<-qX6];exact hi);exact HA.out i hi2 hi2
     have e1:decide (1<=s.size)=decide ((1:Int)<=(s.size:Int)):=(by rw [decide_eq_decide];omega);have e2:decide (s.size<=20)=decide ((s.size:Int)<=20):=(by rw [decide_eq_decide];omega);rw [h1,e1,e2];rfl)
    clear HA HR;by_cases h1:(1:Int)<=(s.size:Int)
    . by_cases h2:(s.size:Int)<=20
      focus
       have HE2:Hid (R=true):=qh (by rw [HE.out,dT h1,dT h2];rfl)
      rotate_left
      focus
       have HE2:Hid (R=false):=qh (by rw [HE.out,dT h1,dF h2];rfl)
      all_goals
       clear HE;go_wp2_with fail;go_ret;exact⟨by rw [HE2.out];rfl,rfl⟩
    . have HE2:Hid (R=false):=qh (by rw [HE.out,dF h1];rfl);clear HE;go_wp2_with fail;go_ret;exact⟨by rw [HE2.out];rfl,rfl⟩
end
def e01 (b:Bool):Int:=if b=true then 0 else 1
set_option maxRecDepth 100000 in
set_option maxHeartbeats 4000000 in
theorem kj9 (v:Vr) (w:World) (hs:v.n.size<=1048576):Calls Tryz.prog 70 #[.agg #[.int .i64 v.k,.int .i64 v.m,.string v.n]] w λ e w'=>e= .returned (.int .i64 (e01 (okV v)))/\Below w.heap.size w w':=by
 obtain⟨k,m,n⟩:=v;dsimp only at hs⊢;have CN:=qh λ w'=>k90 n w' (by omega)
 obtain⟨R,hR⟩:∃ R,R=okV ⟨k,m,n⟩:=⟨_,rfl⟩;obtain⟨N,hN⟩:∃ N,N=nmS n:=⟨_,rfl⟩;rw [<-hN] at CN;have hr:R=(decide (1<=k/\k<=12)&&decide (0<=m/\m<=2)&&(decide (n.size=0)||((k==6||k==8||k==10)&&N))):=by rw [hR,hN];rfl
 rw [<-hR];have hE:=isE n;clear hR hN;have hk:(k=6\/k=8\/k=10)\/(k≠6/\k≠8/\k≠10):=by omega
 have fin:∀ (b:Bool),R=b->Hid (R=b):=λ b h=>qh h
 rcases hk with hk|⟨n6,n8,n10⟩
 . have hkk:decide (1<=k/\k<=12)=true:=dT (by omega);have hof:(k==6||k==8||k==10)=true:=(by rcases hk with rfl|rfl|rfl<;>rfl);rw [hkk,hof] at hr;have hm:m<0\/2<m\/(0<=m/\m<=2):=(by omega);rcases hm with hm|hm|hm
   . have HR:Hid (R=false):=qh (by rw [hr,dF (by omega)];rfl);clear hr hE CN;rcases hk with rfl|rfl|rfl
     all_goals
      go_enter Tryz.func70,Tryz.ntmps70;go_wp2_with fail;go_ret;exact⟨by rw [HR.out];rfl,(Below.refl _ _).alloc (Nat.le_refl _) _⟩
   . have HR:Hid (R=false):=qh (by rw [hr,dF (by omega)];rfl);have m0:¬m<0:=(by omega);clear hr hE CN;rcases hk with rfl|rfl|rfl
     all_goals
      go_enter Tryz.func70,Tryz.ntmps70;go_wp2_with fail;go_ret;exact⟨by rw [HR.out];rfl,(Below.refl _ _).alloc (Nat.le_refl _) _⟩
   . have m0:¬m<0:=(by omega);have m2:¬2<m:=(by omega);rw [dT hm] at hr;by_cases h0:n.size=0
     . rw [dT h0] at hE hr;have HR:Hid (R=true):=qh (by rw [hr];rfl);clear hr CN;rcases hk with rfl|rfl|rfl
       all_goals
        go_enter Tryz.func70,Tryz.ntmps70;go_wp2_with fail;go_ret;exact⟨by rw [HR.out];rfl,(Below.refl _ _).alloc (Nat.le_refl _) _⟩
     . rw [dF h0] at hE hr;have HR:Hid (R=N):=qh (by rw [hr];cases N<;>rfl);clear hr;cases N
       all_goals
        rcases hk with rfl|rfl|rfl
        all_goals
         go_enter Tryz.func70,Tryz.ntmps70;go_wp2_with (first|(refine(CN.out _).mono ?_;rintro e w' ⟨rfl,rfl⟩)|fail);go_ret;exact⟨by rw [HR.out];rfl,(Below.refl _ _).alloc (Nat.le_refl _) _⟩
 . have hof:(k==6||k==8||k==10)=false:=(by simp [n6,n8,n10]);rw [hof] at hr;have e6:(k==6)=false:=(by simp [n6]);have e8:(k==8)=false:=(by simp [n8]);have e10:(k==10)=false:=(by simp [n10]);clear CN n6 n8 n10;have hkc:k<1\/12<k\/(1<=k/\k<=12):=(by omega);rcases hkc with hkc|hkc|hkc
   focus
    have HR:Hid (R=false):=qh (by rw [hr,dF (by omega)];rfl);clear hr hE
   rotate_left
   focus
    have HR:Hid (R=false):=qh (by rw [hr,dF (by omega)];rfl);have k1:¬k<1:=(by omega);clear hr hE
   rotate_left
   focus
    have k1:¬k<1:=(by omega);have k2:¬12<k:=(by omega);have hm:m<0\/2<m\/(0<=m/\m<=2):=(by omega);rcases hm with hm|hm|hm
    focus
     have HR:Hid (R=false):=qh (by rw [hr,dF (show ¬(0<=m/\m<=2) by omega)];simp);clear hr hE hkc
    rotate_left
    focus
     have HR:Hid (R=false):=qh (by rw [hr,dF (show ¬(0<=m/\m<=2) by omega)];simp);have m0:¬m<0:=(by omega);clear hr hE hkc
    rotate_left
    focus
     have m0:¬m<0:=(by omega);have m2:¬2<m:=(by omega);rw [dT hkc,dT hm] at hr;have HR:Hid (R=decide (n.size=0)):=qh (by rw [hr];cases decide (n.size=0)<;>rfl);clear hr hkc hm;by_cases h0:n.size=0
     focus
      rw [dT h0] at hE HR
     rotate_left
     focus
      rw [dF h0] at hE HR
     all_goals
      clear h0
    rotate_left 2
   rotate_left 4
   all_goals
    go_enter Tryz.func70,Tryz.ntmps70;go_wp2_with fail;go_ret
   . exact⟨by rw [HR.out];rfl,(Below.refl _ _).alloc (Nat.le_refl _) _⟩
   . exact⟨by rw [HR.out];rfl,(Below.refl _ _).alloc (Nat.le_refl _) _⟩
   . exact⟨by rw [HR.out];rfl,(Below.refl _ _).alloc (Nat.le_refl _) _⟩
   . exact⟨by rw [HR.out];rfl,(Below.refl _ _).alloc (Nat.le_refl _) _⟩
   . exact⟨by rw [HR.out];rfl,(Below.refl _ _).alloc (Nat.le_refl _) _⟩
   . exact⟨by rw [HR.out];rfl,(Below.refl _ _).alloc (Nat.le_refl _) _⟩

def y27 (s t:ByteArray):ByteArray×ByteArray×Bool:=(str (Lib.cut s.data.toList t.data.toList).1,str (Lib.cut s.data.toList t.data.toList).2.1,(Lib.cut s.data.toList t.data.toList).2.2)
theorem qq6 {s t:ByteArray} (h:Lib.indexB s t= -1):y27 s t=(s,⟨#[]⟩,false):=by
 have h':Lib.index s.data.toList t.data.toList= -1:=h;unfold y27 Lib.cut;rw [h',if_neg (by omega)]
theorem Q33 {s t:ByteArray} {i:Nat} (h:Lib.indexB s t=i) (hr:i+t.size<=s.size):y27 s t=(s.extract 0 i,s.extract (i+t.size) s.size,true):=by
 have h':Lib.index s.data.toList t.data.toList=i:=h;unfold y27 Lib.cut;rw [h',if_pos (by omega)];refine Prod.ext ?_ (Prod.ext ?_ rfl)
 . apply zH9;show (str _).data.toList=_;rw [Yz8,Qe9];simp
 . apply zH9;show (str _).data.toList=_;rw [Yz8,Qe9,qX6,jS5 s (Nat.le_refl _)];simp
theorem Jb0 (s t:ByteArray):(y27 s t).1.size<=s.size/\(y27 s t).2.1.size<=s.size:=by
 rcases Lib.indexB_cases s t with h|⟨i,h,hr⟩
 . rw [qq6 h];exact⟨Nat.le_refl _,Nat.zero_le _⟩
 . rw [Q33 h hr];dsimp only;rw [ByteArray.size_extract,ByteArray.size_extract];omega
theorem xW6 (s t:ByteArray) (w:World) (hs:s.size<=140737488355328) (ht:t.size<=140737488355328):
 Calls Tryz.prog 49 #[.string s,.string t] w λ e w'=>e= .returned (.tuple #[.string (y27 s t).1,.string (y27 s t).2.1,.bool (y27 s t).2.2])/\∃ q,w'=w.drewN q:=by
 rcases Lib.indexB_cases s t with h|⟨i,h,hr⟩
 . rw [qq6 h];exact ju1 s t w hs ht h
 . rw [Q33 h hr];exact QJ2 s t w hs ht i h hr
theorem YN5 (s t:ByteArray) (m:Int) (w:World) (hs:s.size<=1048576) (hm:w.cell? ⟨4,0,none⟩=some (.int .i64 m)):
 Calls Tryz.prog 12 #[.string s,.string t] w λ e w'=>e= .returned (.tuple #[.string (y27 s t).1,.string (y27 s t).2.1,.bool (y27 s t).2.2])/\∃ q,w'=w.drewN q:=
 Tryz.strings_Cut s t m w (by omega) hm

structure A2 (w wr:World) (g:Nat) (k n:Int):Prop where
 r:Blk wr w.heap.size 55 #[.int .i64 0,.int .i64 0]
 v:Blk wr g 55 #[.int .i64 k,.int .i64 n]
 lo:w.heap.size<g
 be:Below w.heap.size w wr
section
variable {w wr:World} {g:Nat} {k n:Int}
theorem A2.lt (h:A2 w wr g k n):g<wr.heap.size:=Blk.lt h.v
theorem A2.facts (h:A2 w wr g k n):wr.cell? ⟨g,0,none⟩=some (.int .i64 k)/\wr.cell? ⟨g,1,none⟩=some (.int .i64 n)/\wr.frozen? ⟨g,0,none⟩=false/\wr.frozen? ⟨g,1,none⟩=false/\g<wr.heap.size/\w.heap.size<g:=
 ⟨h.v.cell 0,h.v.cell 1,h.v.frozen 0,h.v.frozen 1,h.lt,h.lo⟩
theorem A2.res (h:A2 w wr g k n):wr.cell? ⟨w.heap.size,0,none⟩=some (.int .i64 0)/\wr.cell? ⟨w.heap.size,1,none⟩=some (.int .i64 0)/\wr.frozen? ⟨w.heap.size,0,none⟩=false/\wr.frozen? ⟨w.heap.size,1,none⟩=false:=
 ⟨h.r.cell 0,h.r.cell 1,h.r.frozen 0,h.r.frozen 1⟩
theorem A2.put (h:A2 w wr g k n):∃ wz,wz=((wr.setCell ⟨w.heap.size,0,none⟩ (.int .i64 k)).setCell ⟨w.heap.size,1,none⟩ (.int .i64 n))/\Below w.heap.size w wz/\wz.cell? ⟨w.heap.size,0,none⟩=some (.int .i64 k)/\wz.cell? ⟨w.heap.size,1,none⟩=some (.int .i64 n):=by
 have h2:=(h.r.set_ 0 (.int .i64 k)).set_ 1 (.int .i64 n);exact⟨_,rfl,(h.be.setCell (p:=⟨w.heap.size,0,none⟩) (Nat.le_refl _) _).setCell (p:=⟨w.heap.size,1,none⟩) (Nat.le_refl _) _,h2.cell 0,h2.cell 1⟩
end
theorem ji4 {w w':World} {B:Nat} {E:TypeId} {sz n:Nat} {v:Value} {xs:List Value} (h:w.ownsRow B E sz v n xs) (hb:Below w.heap.size w w'):w'.ownsRow B E sz v n xs:=by
 rcases h.2 with e|⟨x,cap,cur,e,hx,hw,r⟩
 . exact⟨h.1,.inl e⟩
 . exact⟨h.1,.inr ⟨x,cap,cur,e,hx,(hb.block x (Array.getElem?_eq_some_iff.1 hw).1).trans hw,r⟩⟩
end Go.Proofs.YtngepacmgabmaaaGreatDoor
