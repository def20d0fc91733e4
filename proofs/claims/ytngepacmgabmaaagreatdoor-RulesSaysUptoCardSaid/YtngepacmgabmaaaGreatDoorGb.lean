/- The last step of a row whose answer is '; Rows of structs in memory, of any kind ( .. -/
import Derived.Test.YtngepacmgabmaaaGreatDoorGa
import Derived.Test.YtngepacmgabmaaaGreatDoorRows
import Derived.Carry
import Derived.ChangeSlices
import Derived.Laws.World
import Derived.WalkSpells
import Derived.WalkLawsBesides
import Derived.Lib.Hide
import Derived.Deep.QuietTactic
import Derived.BigQuiet
import Derived.LoopTactic
namespace Go.Proofs.YtngepacmgabmaaaGreatDoor
open Go.RowKit
set_option linter.unusedVariables false
set_option linter.unusedSimpArgs false
section
open Go.ChangeShapes Go.WideShapes Go.ChangeAt Go.RowKit
section
variable {H:Type} {enc:TypeId×Value->H} {P:Program}
theorem YU2 (hl:laidOutB P=true) {W W':World} (hb:Below W.heap.size W W') {sp:Nat->Bool}:
 ∀ {ts:List TypeId} {vs:List Value} {ds:List (DataW H)} {ps:List MemPlace},(ts.all λ t=>P.readableRec t&&decide (t<P.types.size))=true->
  DataW.TrodAll enc P W 0 (λ _=>true) true ts vs ds ps->(∀ x∈ps,x.block<W.heap.size)->(∀ x∈ps,sp x.block=true)->DataW.TrodAll enc P W' 0 sp true ts vs ds ps
 | [],vs,ds,ps,_,h,_,_=>by
  obtain⟨rfl,rfl,rfl⟩:=trodAll_nil h;rfl
 |t::ts,vs,ds,ps,ht,h,hlt,hs=>by
  obtain⟨v,vs,d,ds,p,q,rfl,rfl,rfl,h1,h2⟩:=trodAll_cons h;simp only [List.all_cons,Bool.and_eq_true,decide_eq_true_eq] at ht
  exact⟨p,q,WideElems.Trod_stays hl ht.1.1 ht.1.2 h1 (λ x hx=>hb.same (hlt x (by simp [hx]))) (λ x hx=>hs x (by simp [hx])),
   YU2 hl hb ht.2 h2 (λ x hx=>hlt x (by simp [hx])) (λ x hx=>hs x (by simp [hx])),rfl⟩
theorem JE0 {f:Func} {s:ChangeSpec} {W W':World} {args:Array Value} {ds gs:List (DataW H)} {before:List MemPlace} (tb:TypeId) (htb:P.underlying tb=some .bool)
 (hl:laidOutB P=true) (hps:(f.params.toList.all λ t=>P.readableRec t&&decide (t<P.types.size))=true) (hrt:f.resultTypes=#[tb]) (hv:s.vars= [])
 (hfn:s.fn H (ds++gs)= {results:= [.lit (.bool true)],args:=ds})
 (hW:DataW.Whole enc P f.params.toList s.vars false W args.toList ds gs before) (hb:Below W.heap.size W W'):s.post enc P f false true false false W args (.bool true) W':=by
 have hW':=hW;obtain⟨p,q,hA,hV,rfl,hfz,hnd⟩:=hW;rw [hv] at hV;obtain⟨rfl,rfl⟩:=trodVars_none hV;have hlt:∀ x∈p,x.block<W.heap.size:=λ x hx=>hW'.lt x (by simp [hx])
 refine ZM7 (pa:=p) (pv:= []) hW' (λ _ _ _=> ?_) (λ sp hsp=> ?_) (λ _ _=> ?_) rfl hb (ok_one hrt rfl (okWide_bool_mk htb _))
 . rw [hfn,hrt];exact trodAll_cons_mk (shut_bool htb _) trodAll_mk0
 . rw [hfn];exact YU2 hl hb hps hA hlt λ x hx=>hsp x (by simp [hx])
 . rw [hfn,hv];rfl
end
end
theorem KK8 {α:Type} {cs:α->List Value} {sz:Nat} (hs:∀ a,(cs a).length=sz) (l:List α):(l.flatMap cs).length=l.length*sz:=by
 induction l with
 |nil=>simp
 |cons x l ih=>rw [List.flatMap_cons,List.length_append,ih,List.length_cons,hs,Nat.succ_mul];omega
theorem xW9 {α:Type} {cs:α->List Value} {sz:Nat} (hs:∀ a,(cs a).length=sz) {l:List α} {k j:Nat} {f:α} (h:l[k]? =some f) (hj:j<sz):(l.flatMap cs)[k*sz+j]? =(cs f)[j]? :=by
 obtain⟨hk,rfl⟩:=List.getElem?_eq_some_iff.1 h
 have e:l.flatMap cs=(l.take k).flatMap cs++(cs l[k]++(l.drop (k+1)).flatMap cs):=by
  conv=>lhs;rw [<-List.take_append_drop k l,List.drop_eq_getElem_cons hk]
  rw [List.flatMap_append,List.flatMap_cons]
 have hl:((l.take k).flatMap cs).length=k*sz:=by rw [KK8 hs,List.length_take,Nat.min_eq_left (by omega)]
 rw [e,List.getElem?_append_right (by omega),hl,Nat.add_sub_cancel_left,List.getElem?_append_left (by rw [hs];exact hj)]
theorem Xs0 {α:Type} {cs:α->List Value} {sz:Nat} (hs:∀ a,(cs a).length=sz) {w:World} {B:Nat} {A:Option Addr} {l:List α} (h:Reads w B sz A l.length (l.flatMap cs)) {k:Nat} {f:α} (hk:l[k]? =some f):
 ∃ ad,A=some ad/\ad.block<B/\(∀ u,(cs f)[0]? =some u->w.cell? (ad.add (k*sz))=some u)/\∀ j u,0<j->(cs f)[j]? =some u->w.cell? ⟨(ad.add (k*sz)).block,(ad.add (k*sz)).off+j,none⟩=some u:=by
 obtain⟨hkl,_⟩:=List.getElem?_eq_some_iff.1 hk;obtain⟨ad,e,hb,hc⟩:=h.2 (by omega)
 have key:∀ j u,(cs f)[j]? =some u->w.cell? ((ad.add (k*sz)).add j)=some u:=λ j u hu=>by
  have hj:j<sz:=by
   have:=(List.getElem?_eq_some_iff.1 hu).1;rw [hs] at this;exact this
  rw [jx6];exact hc _ _ (by rw [xW9 hs hk hj];exact hu)
 have sp:∀ (p:Addr) (j:Nat),0<j->p.add j=⟨p.block,p.off+j,none⟩:=λ p j hj=>by
  unfold Addr.add;rw [if_neg (by omega)]
 refine⟨ad,e,hb,λ u hu=> ?_,λ j u hj hu=> ?_⟩
 . have:=key 0 u hu;rw [jx6,Nat.add_zero] at this;exact this
 . rw [<-sp _ j hj];exact key j u hu
structure Vr where
 (k m:Int) (n:ByteArray)
abbrev zl0 (v:Vr):List Value:= [.int .i64 v.k,.int .i64 v.m,.string v.n]
def JC0 (l:List Vr):List Value:=l.flatMap zl0
theorem yA0 (l:List Vr):(JC0 l).length=l.length*3:=by
 unfold JC0
 induction l with
 |nil=>rfl
 |cons x l ih=>rw [List.flatMap_cons,List.length_append,ih,List.length_cons];simp only [zl0,List.length_cons,List.length_nil];omega
theorem Yq1 {l:List Vr} {k j:Nat} {f:Vr} (h:l[k]? =some f) (hj:j<3):(JC0 l)[k*3+j]? =(zl0 f)[j]? :=by
 obtain⟨hk,rfl⟩:=List.getElem?_eq_some_iff.1 h;have e:l=l.take k++l[k]::l.drop (k+1):=by rw [<-List.drop_eq_getElem_cons hk,List.take_append_drop]
 have hc:JC0 l=JC0 (l.take k)++(zl0 l[k]++JC0 (l.drop (k+1))):=by
  conv=>lhs;rw [e]
  simp only [JC0,List.flatMap_append,List.flatMap_cons]
 have hl:(JC0 (l.take k)).length=k*3:=by rw [yA0,List.length_take,Nat.min_eq_left (by omega)]
 rw [hc,List.getElem?_append_right (by omega),hl,Nat.add_sub_cancel_left,List.getElem?_append_left (by simp;omega)]
def VrR (w:World) (B:Nat) (A:Option Addr) (cap:Nat) (l:List Vr):Prop:=Reads w B 3 A l.length (JC0 l)/\l.length<=cap/\cap<=9223372036854775807/\∀ v∈l,v.n.size<=1048576
theorem VrR.below {w w':World} {B:Nat} {A:Option Addr} {cap:Nat} {l:List Vr} (h:VrR w B A cap l) (hb:Below B w w'):VrR w' B A cap l:=⟨h.1.keep λ _ hp=>hb.cell hp,h.2⟩
theorem VrR.cells {w:World} {B:Nat} {A:Option Addr} {cap:Nat} {l:List Vr} (h:VrR w B A cap l) {k:Nat} (hk:k<l.length):
 ∃ ad,A=some ad/\ad.block<B/\w.cell? (ad.add (k*3))=some (.int .i64 l[k].k)/\w.cell? ⟨(ad.add (k*3)).block,(ad.add (k*3)).off+1,none⟩=some (.int .i64 l[k].m)/\w.cell? ⟨(ad.add (k*3)).block,(ad.add (k*3)).off+2,none⟩=some (.string l[k].n)/\l[k].n.size<=1048576:=by
 obtain⟨ad,e,hb,hc⟩:=h.1.2 (by omega);have h0:=Yq1 (List.getElem?_eq_getElem hk) (j:=0) (by omega);have h1:=Yq1 (List.getElem?_eq_getElem hk) (j:=1) (by omega);have h2:=Yq1 (List.getElem?_eq_getElem hk) (j:=2) (by omega);refine⟨ad,e,hb,hc _ _ h0,?_,?_,h.2.2.2 _ (List.getElem_mem hk)⟩
 . show w.cell? ((ad.add (k*3)).add 1)=_;rw [jx6];exact hc _ _ h1
 . show w.cell? ((ad.add (k*3)).add 2)=_;rw [jx6];exact hc _ _ h2
def yk4 (n:Int) (l:List UInt8):Bool:=l.any λ b=>decide (n=b.toNat)
theorem jH7 {n:Int} {s:ByteArray} {k:Nat} (hk:k<s.size) (h:yk4 n (s.data.toList.take k)=false) (h2:¬n=s[k].toNat):yk4 n (s.data.toList.take (k+1))=false:=by
 rw [Zp9 s k hk];unfold yk4 at*;simp_all
theorem kl6 {n:Int} {s:ByteArray} {k:Nat} (hk:k<s.size) (h2:n=s[k].toNat):yk4 n s.data.toList=true:=by
 unfold yk4;rw [List.any_eq_true];exact⟨s[k],by rw [<-Kb1 s k hk];exact List.getElem_mem _,by simpa using h2⟩
set_option maxHeartbeats 400000 in
theorem Qs9 (n:Int) (s:ByteArray) (w:World) (hs:s.size<=maxLen) (h0:0<=n) (h1:n<=255):
 Calls Tryz.prog 55 #[.int .u8 n,.string s] w λ e w'=>e= .returned (.bool (yk4 n s.data.toList))/\w=w':=by
 unfold maxLen at hs;go_enter Tryz.func55,Tryz.ntmps55
 go_wp2
 go_loop [5] (λ i=>∃ k:Nat,k<=s.size/\i= .int .i64 k/\yk4 n (s.data.toList.take k)=false) (λ i=>s.size-(intOf i).toNat)
 case atStart=>exact⟨0,by omega,rfl,rfl⟩
 case round=>
  obtain⟨k,hk,rfl,hd⟩:=hrel;have HD:=qh hd;clear hd;by_cases hlt:k<s.size
  . by_cases he:n=s[k].toNat
    . have HE:=qh (kl6 hlt he);have he':=beq_iff_eq.2 he;clear he
      go_wp2
      go_ret;rw [HE.out];exact⟨rfl,rfl⟩
    . have he':=beq_eq_false_iff_ne.2 he
      go_wp2
      go_round
      case rel=>exact⟨k+1,by omega,by go_num,jH7 hlt HD.out he⟩
      case measure=>simp [intOf];omega
  . have h:=HD.out;rw [jS5 s (by omega)] at h;have HE:=qh h;clear h
    go_wp2
    go_ret;rw [HE.out];exact⟨rfl,rfl⟩
theorem Yz0 (L M:List UInt8):str L++str M=str (L++M):=ByteArray.mk_append_mk L M
theorem qE6 (L:List UInt8) (s:ByteArray) (k:Nat) (h:k<s.size):str L++s.extract k (k+1)=str (L++ [s[k]]):=by
 apply zH9;rw [Qr0,xJ5 s k h,Qe9,Qe9]
theorem kg2 {a b:ByteArray} (h:a=b):Value.string a= .string b:=by rw [h]
theorem X74 (n:Int) (s:ByteArray) (b:Bool) (hb:yk4 n s.data.toList=b) (w:World) (hs:s.size<=maxLen) (h0:0<=n) (h1:n<=255):
 Calls Tryz.prog 55 #[.int .u8 n,.string s] w λ e w'=>e= .returned (.bool b)/\w=w':=by
 subst hb;exact Qs9 n s w hs h0 h1
def okP (z:Int):Bool:=decide (1<=z/\z<=11)
def yU7 (zs:List Int):Int:=if 8<zs.length then 2 else if zs.all okP=true then 0 else 1
theorem YA3 {zs:List Int} {k:Nat} (h:¬8<zs.length) (hk:k<zs.length) (hb:okP zs[k]=false):yU7 zs=1:=by
 unfold yU7;rw [if_neg h,if_neg];intro h2;rw [List.all_eq_true] at h2;have:=h2 zs[k] (List.getElem_mem hk);rw [hb] at this;cases this
theorem yD5 {zs:List Int} (h:¬8<zs.length) (ha:∀ k (hk:k<zs.length),okP zs[k]=true):yU7 zs=0:=by
 unfold yU7;rw [if_neg h,if_pos];rw [List.all_eq_true];intro z hz;obtain⟨i,hi,rfl⟩:=List.mem_iff_getElem.1 hz;exact ha i hi
def IR (w:World) (A:Option Addr) (zs:List Int):Prop:=Reads w w.heap.size 1 A zs.length (zs.map (Value.int .i64))
theorem IR.at_ {w:World} {A:Option Addr} {zs:List Int} (h:IR w A zs) {k:Nat} (hk:k<zs.length):∃ ad,A=some ad/\ad.block<w.heap.size/\w.cell? (ad.add k)=some (.int .i64 zs[k]):=by
 obtain⟨ad,u,e,hb,hu,hc⟩:=Reads.at_ h hk;refine⟨ad,e,hb,?_⟩;rw [hc];simp only [List.getElem?_map,List.getElem?_eq_getElem hk,Option.map_some] at hu;exact hu.symm
theorem IR.below {w w':World} {A:Option Addr} {zs:List Int} (h:IR w A zs) (hb:Below w.heap.size w w'):IR w' A zs:=(Reads.below h hb).more hb.size
theorem zz6 (z:Int) (w:World):Calls Tryz.prog 101 #[.int .i64 z] w λ e w'=>e= .returned (.bool (!okP z))/\w=w':=by
 have hc:(z<1/\okP z=false)\/(¬z<1/\11<z/\okP z=false)\/(¬z<1/\¬11<z/\okP z=true):=by
  unfold okP;by_cases h1:z<1
  . exact .inl ⟨h1,decide_eq_false (by omega)⟩
  . by_cases h2:11<z
    . exact .inr (.inl ⟨h1,h2,decide_eq_false (by omega)⟩)
    . exact .inr (.inr ⟨h1,h2,decide_eq_true (by omega)⟩)
 obtain⟨o,ho⟩:∃ o,o=okP z:=⟨_,rfl⟩;rw [<-ho] at hc⊢;clear ho;rcases hc with⟨h1,rfl⟩|⟨h1,h2,rfl⟩|⟨h1,h2,rfl⟩
 all_goals
  go_enter Tryz.func101,Tryz.ntmps101;go_wp2_with fail;go_ret;exact⟨rfl,rfl⟩
section
variable (zs:List Int) (A:Option Addr) (c:Nat) (w:World)
def xF2 (zs:List Int) (w:World) (e:Ending) (w':World):Prop:=((∃ k:Nat,e= .returned (.int .i64 (k:Int))/\∃ hk:k<zs.length,okP zs[k]=false)\/(e= .returned (.int .i64 (-1))/\∀ k (hk:k<zs.length),okP zs[k]=true))/\w=w'
set_option maxHeartbeats 1000000 in
theorem Xr2 (h:IR w A zs) (hl:zs.length<=9223372036854775807):
 Calls Tryz.prog 131 #[.slice A zs.length c,.func (.func 101) #[] #[]] w (xF2 zs w):=by
 have HR:=qh h;clear h;go_enter Tryz.func131,Tryz.ntmps131;go_wp2_with fail;go_loop [8] (λ u=>∃ k:Nat,u= .int .i64 (k:Int)/\k<=zs.length/\Hid (∀ j (hj:j<zs.length),j<k->okP zs[j]=true)) (λ u=>zs.length-(intOf u).toNat)
 case atStart=>exact⟨0,rfl,by omega,λ j hj h=>absurd h (by omega)⟩
 case round=>
  obtain⟨k,rfl,hk,HA⟩:=hrel;by_cases hlk:k<zs.length
  . have k1:(k:Int)<(zs.length:Int):=(by omega);have k2:(0:Int)<=(k:Int):=(by omega);obtain⟨ad,rfl,_,y0⟩:=HR.out.at_ hlk;obtain⟨z,hz⟩:∃ z,z=zs[k]:=⟨_,rfl⟩;rw [<-hz] at y0;have C:=zz6 z w;cases hv:okP z with
    |true=>
     rw [hv] at C;have C:=qh C
     have HA2:Hid (∀ j (hj:j<zs.length),j<k+1->okP zs[j]=true):=λ j hj h=>by
      by_cases e:j=k
      . subst e;rw [<-hz];exact hv
      . exact HA.out j hj (by omega)
     clear hz hv;go_wp2_with fail;refine C.out.mono ?_;rintro e w' ⟨rfl,rfl⟩;go_wp2_with fail;go_round
     case rel=>exact⟨k+1,by go_num,by omega,HA2⟩
     case measure=>simp [intOf];omega
    |false=>
     rw [hv] at C;have C:=qh C;have HB:Hid (∃ hk:k<zs.length,okP zs[k]=false):=⟨hlk,by rw [<-hz];exact hv⟩;clear hz hv;go_wp2_with fail;refine C.out.mono ?_;rintro e w' ⟨rfl,rfl⟩;go_wp2_with fail;go_ret;exact⟨.inl ⟨k,rfl,HB.out⟩,rfl⟩
  . obtain rfl:k=zs.length:=(by omega);clear hlk;go_wp2_with fail;go_ret;exact⟨.inr ⟨rfl,λ j hj=>HA.out j hj hj⟩,rfl⟩
theorem jf9 (h:IR w A zs) (hl:zs.length<=8):
 Calls Tryz.prog 100 #[.slice A zs.length c,.func (.func 101) #[] #[]] w λ e w'=>e= .returned (.bool (!zs.all okP))/\w=w':=by
 have C:=qh (Xr2 zs A c w h (by omega));clear h;go_enter Tryz.func100,Tryz.ntmps100;go_wp2_with fail;refine C.out.mono ?_;rintro e w' ⟨hr,rfl⟩;rcases hr with⟨k,rfl,hk,hb⟩|⟨rfl,ha⟩
 . have HE:Hid ((!zs.all okP)=true):=by
    show _=_;rw [Bool.not_eq_true',Bool.eq_false_iff];intro h2;rw [List.all_eq_true] at h2;have:=h2 zs[k] (List.getElem_mem hk);rw [hb] at this;cases this
   have k1:(0:Int)<=(k:Int):=(by omega);clear hb;go_wp2_with fail;go_ret;exact⟨by rw [HE.out];rfl,rfl⟩
 . have HE:Hid ((!zs.all okP)=false):=by
    show _=_;rw [Bool.not_eq_false',List.all_eq_true];intro z hz;obtain⟨i,hi,rfl⟩:=List.mem_iff_getElem.1 hz;exact ha i hi
   clear ha;go_wp2_with fail;go_ret;exact⟨by rw [HE.out];rfl,rfl⟩
theorem qA0 (h:IR w A zs) (hl:zs.length<=9223372036854775807):
 Calls Tryz.prog 71 #[.slice A zs.length c] w λ e w'=>e= .returned (.int .i64 (yU7 zs))/\w=w':=by
 by_cases h1:8<zs.length
 . have d1:(8:Int)<(zs.length:Int):=(by omega);have HE:Hid (yU7 zs=2):=(by show _=_;unfold yU7;rw [if_pos h1]);clear h;go_enter Tryz.func71,Tryz.ntmps71;go_wp2_with fail;go_ret;exact⟨by rw [HE.out];rfl,rfl⟩
 . have d1:¬(8:Int)<(zs.length:Int):=(by omega);have C:=jf9 zs A c w h (by omega);have HE:Hid (yU7 zs=if zs.all okP=true then 0 else 1):=(by show _=_;unfold yU7;rw [if_neg h1]);obtain⟨b,hb⟩:∃ b,b=zs.all okP:=⟨_,rfl⟩;rw [<-hb] at C HE;clear h hb;cases b
   rotate_left
   all_goals
    have C:=qh C;go_enter Tryz.func71,Tryz.ntmps71;go_wp2_with fail;refine C.out.mono ?_;rintro e w' ⟨rfl,rfl⟩;go_wp2_with fail;go_ret;exact⟨by rw [HE.out];rfl,rfl⟩
set_option maxHeartbeats 1000000 in
theorem Jz0 (h:IR w A zs) (hl:zs.length<=9223372036854775807):
 Calls Tryz.prog 56 #[.slice A zs.length c] w λ e w'=>e= .returned (.int .i64 (yU7 zs))/\w=w':=by
 by_cases h1:8<zs.length
 . have d1:(8:Int)<(zs.length:Int):=(by omega);have HE:Hid (yU7 zs=2):=(by show _=_;unfold yU7;rw [if_pos h1]);clear h;go_enter Tryz.func56,Tryz.ntmps56;go_wp2_with fail;go_ret;exact⟨by rw [HE.out];rfl,rfl⟩
 . have d1:¬(8:Int)<(zs.length:Int):=(by omega);have HR:=qh h;clear h;go_enter Tryz.func56,Tryz.ntmps56;go_wp2_with fail;go_loop [3] (λ u=>∃ k:Nat,u= .int .i64 (k:Int)/\k<=zs.length/\Hid (∀ j (hj:j<zs.length),j<k->okP zs[j]=true)) (λ u=>zs.length-(intOf u).toNat)
   case atStart=>exact⟨0,rfl,by omega,λ j hj h=>absurd h (by omega)⟩
   case round=>
    obtain⟨k,rfl,hk,HA⟩:=hrel;by_cases hlk:k<zs.length
    . have k1:(k:Int)<(zs.length:Int):=(by omega);have k2:(0:Int)<=(k:Int):=(by omega);obtain⟨ad,rfl,_,y0⟩:=HR.out.at_ hlk;obtain⟨z,hz⟩:∃ z,z=zs[k]:=⟨_,rfl⟩;rw [<-hz] at y0;by_cases hok:1<=z/\z<=11
      . have HA2:Hid (∀ j (hj:j<zs.length),j<k+1->okP zs[j]=true):=λ j hj h=>by
         by_cases e:j=k
         . subst e;rw [<-hz];exact decide_eq_true hok
         . exact HA.out j hj (by omega)
        have g1:¬z<1:=(by omega);have g2:¬11<z:=(by omega);clear hz hok;go_wp2_with fail;go_round
        case rel=>exact⟨k+1,by go_num,by omega,HA2⟩
        case measure=>simp [intOf];omega
      . have HB:Hid (yU7 zs=1):=YA3 h1 hlk (by rw [<-hz];exact decide_eq_false hok);have hcs:z<1\/(¬z<1/\11<z):=(by omega);clear hz hok;rcases hcs with g1|⟨g1,g2⟩
        all_goals
         go_wp2_with fail;go_ret;exact⟨by rw [HB.out];rfl,rfl⟩
    . obtain rfl:k=zs.length:=(by omega);have HB:Hid (yU7 zs=0):=yD5 h1 λ j hj=>HA.out j hj hj
      clear hlk;go_wp2_with fail;go_ret;exact⟨by rw [HB.out];rfl,rfl⟩
end
end Go.Proofs.YtngepacmgabmaaaGreatDoor
