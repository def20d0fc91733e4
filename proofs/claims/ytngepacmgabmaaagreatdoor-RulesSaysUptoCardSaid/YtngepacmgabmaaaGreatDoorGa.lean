/- Plain lemmas on byte strings as lists: n; The row's last step where all that is kn .. -/
import Derived.WalkKit
import Derived.Lib.Strings
import Derived.Lib.IndexBytes
import Derived.ProofKit
import Derived.OpenShut
import Derived.ShutString
import Derived.ChangeOld
import Derived.ChangeSame
import Derived.JoinedCond
import Derived.Shelf.Vars
import Derived.Below
import Derived.Laws.OwnMore
import Derived.Laws.Rows
import Derived.Deep.AppendLies
import Derived.Deep.Draws
import Derived.Deep.OwnRows
import Derived.Maps.AppendAt
import Derived.RegionTactic
import Derived.OwnWalk
namespace Go.Proofs.YtngepacmgabmaaaGreatDoor
open Go.RowKit
set_option linter.unusedVariables false
set_option linter.unusedSimpArgs false
theorem qh {p:Prop} (h:p):Hid p:=h
theorem q54 {k:IntKind} {a b:Int} (h:a=b):Ending.returned (.int k a)= .returned (.int k b):=by rw [h]
theorem Kh9 {a b:Bool} (h:a=b):Ending.returned (.bool a)= .returned (.bool b):=by rw [h]
theorem Zf7 {a b:ByteArray} (h:a=b):Ending.returned (.string a)= .returned (.string b):=by rw [h]
abbrev lst (s:ByteArray):List UInt8:=s.data.toList
abbrev str (l:List UInt8):ByteArray:=⟨l.toArray⟩
theorem qX6 (s:ByteArray):s.data.toList.length=s.size:=by rw [Array.length_toList];rfl
theorem Yh4 (l:List UInt8):lst (str l)=l:=by simp [lst,str]
theorem Xp5 (l:List UInt8):(str l).size=l.length:=by show l.toArray.size=_;simp
theorem Kb1 (s:ByteArray) (k:Nat) (h:k<s.size):s.data.toList[k]'(by rw [qX6];exact h)=s[k]:=by
 simp;rfl
theorem Kb1? (s:ByteArray) (k:Nat) (h:k<s.size):s.data.toList[k]? =some s[k]:=by
 rw [List.getElem?_eq_getElem (by rw [qX6];exact h),Kb1 s k h]
theorem Zp9 (s:ByteArray) (k:Nat) (h:k<s.size):s.data.toList.take (k+1)=s.data.toList.take k++ [s[k]]:=by
 rw [List.take_succ_eq_append_getElem (by rw [qX6];exact h),Kb1 s k h]
theorem jS5 (s:ByteArray) {k:Nat} (h:s.size<=k):s.data.toList.take k=s.data.toList:=List.take_of_length_le (by rw [qX6];exact h)
theorem Jp3 (s:ByteArray) (k:Nat) (h:k<=s.size):(s.data.toList.take k).length=k:=by rw [List.length_take,qX6];omega
theorem j65 (b:UInt8):0<=(b.toNat:Int)/\(b.toNat:Int)<=255:=by have:=b.toNat_lt;omega
theorem zH9 {a b:ByteArray} (h:a.data.toList=b.data.toList):a=b:=by
 cases a;cases b;simp at h;simp [h]
theorem Qr0 (a b:ByteArray):(a++b).data.toList=a.data.toList++b.data.toList:=by
 cases a;cases b;simp [ByteArray.mk_append_mk]
theorem Yz8 (s:ByteArray) (a b:Nat):(s.extract a b).data.toList=(s.data.toList.take b).drop a:=by
 rw [Lib.extract_data,List.drop_take]
theorem Qe9 (l:List UInt8):(ByteArray.mk l.toArray).data.toList=l:=by simp
theorem JZ6 {l:List UInt8} {k:Nat} (h:k<l.length):(l.take (k+1)).drop k= [l.getD k 0]:=by
 rw [List.take_succ_eq_append_getElem h,List.drop_append_of_le_length (by simp;omega)];have:(l.take k).drop k= []:=List.drop_eq_nil_of_le (by simp;omega);rw [this];simp [List.getD,h]
theorem xJ5 (s:ByteArray) (k:Nat) (h:k<s.size):(s.extract k (k+1)).data.toList= [s[k]]:=by
 rw [Yz8,JZ6 (by rw [qX6];exact h)];simp only [List.getD,Kb1? s k h,Option.getD_some]
theorem k73 {P:UInt8->Prop} (h:∀ n:Fin 256,P (UInt8.ofNat n.val)) (b:UInt8):P b:=by
 have:=h ⟨b.toNat,b.toNat_lt⟩;rwa [UInt8.ofNat_toNat] at this
theorem XO4 {α:Type} {P:List α->Prop} (h0:P []) (h1:∀ l b,P l->P (l++ [b])) (l:List α):P l:=by
 have h:∀ r:List α,P r.reverse:=by
  intro r
  induction r with
  |nil=>exact h0
  |cons x r ih=>rw [List.reverse_cons];exact h1 _ _ ih
 have:=h l.reverse;rwa [List.reverse_reverse] at this
def jJ9 (n:Int):Int:=if 48<=n/\n<=57 then n-48 else if 97<=n/\n<=102 then n-87 else if 65<=n/\n<=70 then n-55 else-1
theorem XX8 (n:Int):jJ9 n<=15:=by unfold jJ9;repeat' split<;>omega
theorem Xv7 (n:Int): -1<=jJ9 n:=by unfold jJ9;repeat' split<;>omega
theorem XX6:(ByteArray.mk #[48,49,50,51,52,53,54,55,56,57,97,98,99,100,101,102]).size=16:=rfl
theorem K25:(ByteArray.mk #[48,49,50,51,52,53,54,55,56,57,65,66,67,68,69,70]).size=16:=rfl
theorem Qy2:∀ k:Fin 16,((ByteArray.mk #[48,49,50,51,52,53,54,55,56,57,97,98,99,100,101,102])[k.val]'(by rw [XX6];exact k.isLt)).toNat=if k.val<10 then 48+k.val else 87+k.val:=by decide
theorem XC7:∀ k:Fin 16,((ByteArray.mk #[48,49,50,51,52,53,54,55,56,57,65,66,67,68,69,70])[k.val]'(by rw [K25];exact k.isLt)).toNat=if k.val<10 then 48+k.val else 55+k.val:=by decide
theorem j13 (k:Nat) (h:k<16):((ByteArray.mk #[48,49,50,51,52,53,54,55,56,57,97,98,99,100,101,102])[k]'(by rw [XX6];exact h)).toNat=if k<10 then 48+k else 87+k:=Qy2 ⟨k,h⟩
theorem QR7 (k:Nat) (h:k<16):((ByteArray.mk #[48,49,50,51,52,53,54,55,56,57,65,66,67,68,69,70])[k]'(by rw [K25];exact h)).toNat=if k<10 then 48+k else 55+k:=XC7 ⟨k,h⟩
theorem yv9 (k:Nat) (h:k<16):jJ9 (((ByteArray.mk #[48,49,50,51,52,53,54,55,56,57,97,98,99,100,101,102])[k]'(by rw [XX6];exact h)).toNat:Int)=k:=by
 rw [j13 k h];unfold jJ9;split<;>split<;>(try split)<;>(try split)<;>omega
theorem JN3 (k:Nat) (h:k<16):jJ9 (((ByteArray.mk #[48,49,50,51,52,53,54,55,56,57,65,66,67,68,69,70])[k]'(by rw [K25];exact h)).toNat:Int)=k:=by
 rw [QR7 k h];unfold jJ9;split<;>split<;>(try split)<;>(try split)<;>omega
theorem QM6 (n:Int) (k:Nat) (h:k<16) (h1:¬n=(((ByteArray.mk #[48,49,50,51,52,53,54,55,56,57,97,98,99,100,101,102])[k]'(by rw [XX6];exact h)).toNat:Int))
 (h2:¬n=(((ByteArray.mk #[48,49,50,51,52,53,54,55,56,57,65,66,67,68,69,70])[k]'(by rw [K25];exact h)).toNat:Int)):jJ9 n≠k:=by
 rw [j13 k h] at h1;rw [QR7 k h] at h2;intro e;unfold jJ9 at e;by_cases h10:k<10
 . simp only [h10,if_true] at h1 h2;split at e<;>(try split at e)<;>(try split at e)<;>omega
 . simp only [h10,if_false] at h1 h2;split at e<;>(try split at e)<;>(try split at e)<;>omega
def Jz6 (base:Int) (l:List UInt8):Int:=l.foldl (λ n b=>n*base+jJ9 b.toNat) 0
def Zy1 (base:Int) (l:List UInt8):Bool:=l.all λ b=>decide (0<=jJ9 b.toNat)&&decide (jJ9 b.toNat<base)
theorem zN7 (base:Int) (l:List UInt8) (b:UInt8):Jz6 base (l++ [b])=Jz6 base l*base+jJ9 b.toNat:=by simp [Jz6]
theorem qB0 (base:Int) (l:List UInt8) (b:UInt8):Zy1 base (l++ [b])=(Zy1 base l&&(decide (0<=jJ9 b.toNat)&&decide (jJ9 b.toNat<base))):=by simp [Zy1]
theorem JF0 {base:Int} {l:List UInt8} {k:Nat} (h:Zy1 base (l.take k)=false):Zy1 base l=false:=by
 unfold Zy1 at*;rw [List.all_eq_false] at*;obtain⟨x,hx,hn⟩:=h;exact⟨x,List.mem_of_mem_take hx,hn⟩
theorem yn7 {base:Int} (hb:2<=base) (hb2:base<=16) (l:List UInt8):Zy1 base l=true->0<=Jz6 base l/\Jz6 base l+1<=((16^l.length:Nat):Int):=by
 induction l using XO4 with
 |h0=>intro _;simp [Jz6]
 |h1 l b ih=>
  intro h;rw [qB0,Bool.and_eq_true,Bool.and_eq_true,decide_eq_true_iff,decide_eq_true_iff] at h;obtain⟨h1,h2,h3⟩:=h;obtain⟨i1,i2⟩:=ih h1;rw [zN7,List.length_append,List.length_singleton,Nat.pow_succ];have m1:0<=Jz6 base l*base:=Int.mul_nonneg i1 (by omega);have m2:Jz6 base l*base<=Jz6 base l*16:=Int.mul_le_mul_of_nonneg_left hb2 i1;omega
theorem QD9 {base:Int} (hb:2<=base) (hb2:base<=16) (l:List UInt8) (h:Zy1 base l=true) (hl:l.length<=9):
 0<=Jz6 base l/\Jz6 base l<=68719476736/\0<=Jz6 base l*base/\Jz6 base l*base<=1099511627776:=by
 obtain⟨h1,h2⟩:=yn7 hb hb2 l h;have h3:16^l.length<=16^9:=Nat.pow_le_pow_right (by omega) hl;have h4:16^9=68719476736:=by decide
 have m1:0<=Jz6 base l*base:=Int.mul_nonneg h1 (by omega);have m2:Jz6 base l*base<=Jz6 base l*16:=Int.mul_le_mul_of_nonneg_left hb2 h1;omega
def X76 (base most:Int) (s:ByteArray):Bool:=Zy1 base s.data.toList&&decide (1<=s.size)&&decide ((s.size:Int)<=most)
def zE8 (base most:Int) (s:ByteArray):Int:=if X76 base most s then Jz6 base s.data.toList else 0
def qH0 (base most:Int) (s:ByteArray):Int:=if X76 base most s then 0 else 4
theorem Yy2 {base most:Int} {s:ByteArray} (h:Zy1 base s.data.toList=false\/s.size<1\/most<s.size):zE8 base most s=0/\qH0 base most s=4:=by
 have:X76 base most s=false:=by
  unfold X76;rcases h with h|h|h
  . simp [h]
  . have h0:¬1<=s.size:=(by omega);simp [h0]
  . have h0:¬(s.size:Int)<=most:=(by omega);simp [h0]
 simp [zE8,qH0,this]
theorem QN6 {base most:Int} {s:ByteArray} (h1:Zy1 base s.data.toList=true) (h2:1<=s.size) (h3:(s.size:Int)<=most):zE8 base most s=Jz6 base s.data.toList/\qH0 base most s=0:=by
 have:X76 base most s=true:=by simp [X76,h1,h2,h3]
 simp [zE8,qH0,this]
theorem y19 {base:Int} {s:ByteArray} {k:Nat} (hk:k<s.size) (h:jJ9 s[k].toNat<0\/base<=jJ9 s[k].toNat):Zy1 base s.data.toList=false:=by
 apply JF0 (k:=k+1);rw [Zp9 s k hk,qB0];rcases h with h|h
 . have:¬0<=jJ9 s[k].toNat:=(by omega);simp [this]
 . have:¬jJ9 s[k].toNat<base:=(by omega);simp [this]
theorem yA7 {base:Int} {s:ByteArray} {k:Nat} (hk:k<s.size) (h:Zy1 base (s.data.toList.take k)=true) (h1:0<=jJ9 s[k].toNat) (h2:jJ9 s[k].toNat<base):Zy1 base (s.data.toList.take (k+1))=true:=by
 rw [Zp9 s k hk,qB0];simp [h,h1,h2]
theorem Xo5 {base:Int} {s:ByteArray} {k:Nat} (hk:k<s.size):Jz6 base (s.data.toList.take (k+1))=Jz6 base (s.data.toList.take k)*base+jJ9 s[k].toNat:=by
 rw [Zp9 s k hk,zN7]
section
open Go.ChangeShapes Go.WideShapes Go.ChangeAt Go.RowKit
section
variable {H:Type} {enc:TypeId×Value->H} {P:Program}
theorem ZM7 {f:Func} {s:ChangeSpec} {apart fresh handsOn again:Bool} {W W':World} {args:Array Value} {v:Value} {ds gs:List (DataW H)} {before pa pv:List MemPlace}
 (hW:DataW.Whole enc P f.params.toList s.vars apart W args.toList ds gs before)
 (hres:∀ (b:Nat) (sp:Nat->Bool) (hd:Bool),DataW.TrodAll enc P W' b sp hd f.resultTypes.toList (v.resultList f.resultTypes.size) (s.fn H (ds++gs)).results [])
 (hargs:∀ sp:Nat->Bool,(∀ p∈before,sp p.block=true)->DataW.TrodAll enc P W' 0 sp true f.params.toList args.toList (s.fn H (ds++gs)).args pa)
 (hvars:∀ sp:Nat->Bool,(∀ p∈before,sp p.block=true)->DataW.TrodVars enc P W' sp s.vars (s.fn H (ds++gs)).vars pv)
 (hps:before=pa++pv) (hb:Below W.heap.size W W')
 (hok:∀ (j:Nat) (t:TypeId) (r:Value),f.resultTypes[j]? =some t->(v.resultList f.resultTypes.size)[j]? =some r->Value.okWide P W' .any 0 t r):
 s.post enc P f apart fresh handsOn again W args v W':=by
 have hlt:∀ p∈before,p.block<W.heap.size:=λ p hp=>hW.lt p hp
 have hold:∀ p∈before,(λ b=>decide (b<W.heap.size)) p.block=true:=λ p hp=>by simpa using hlt p hp
 refine⟨ds,gs,before,[],pa,pv,hW,hres _ _ _,hargs _ hold,hvars _ hold,World.keptBut_mono (λ p hp=>⟨hp,?_⟩) (hb.frame (· ∈before)),λ _=> ?_⟩
 . rw [hps,List.mem_append] at hp;exact Or.inr hp
 . obtain⟨_,_,_,_,_,hz,hn⟩:=hW;refine⟨hok,_,_,([]++pa)++pv,⟨[]++pa,pv,trodAll_append (hargs _ (λ _ _=>rfl)) (hres _ _ _),hvars _ (λ _ _=>rfl),rfl,?_,?_⟩,?_⟩
   . intro b off hp;have hin:MemPlace.cell b off∈before:=(by rw [hps];simpa using hp);rw [hb.frozen (hlt _ hin)];exact hz b off hin
   . intro ha;have:=hn ha;rw [hps] at this
     simpa using this
   . intro p hp _;rw [hps]
     simpa using hp
end
end
theorem ZE9 (a:Addr) (n:Nat):(a.add n).block=a.block:=by unfold Addr.add;split<;>rfl
theorem jx6 (a:Addr) (i j:Nat):(a.add i).add j=a.add (i+j):=by
 unfold Addr.add;by_cases hi:i=0<;>by_cases hj:j=0<;>simp [hi,hj,Nat.add_assoc]
def Reads (w:World) (B size:Nat) (A:Option Addr) (n:Nat) (xs:List Value):Prop:=
 xs.length=n*size/\(0<n->∃ ad,A=some ad/\ad.block<B/\∀ j u,xs[j]? =some u->w.cell? (ad.add j)=some u)
section
variable {w w':World} {B B' size n:Nat} {A:Option Addr} {xs:List Value}
theorem Reads.none_:Reads w B size A 0 []:=⟨by simp,λ h=>absurd h (by omega)⟩
theorem Reads.at_ {k:Nat} (h:Reads w B 1 A n xs) (hk:k<n):∃ ad u,A=some ad/\ad.block<B/\xs[k]? =some u/\w.cell? (ad.add k)=some u:=by
 obtain⟨ad,e,hb,hc⟩:=h.2 (by omega);have hl:k<xs.length:=by have:=h.1;omega
 exact⟨ad,xs[k],e,hb,List.getElem?_eq_getElem hl,hc k _ (List.getElem?_eq_getElem hl)⟩
theorem Reads.keep (h:Reads w B size A n xs) (hk:∀ p:Addr,p.block<B->w'.cell? p=w.cell? p):Reads w' B size A n xs:=
 ⟨h.1,λ hn=>by
  obtain⟨ad,e,hb,hc⟩:=h.2 hn;exact⟨ad,e,hb,λ j u hu=>(hk _ (by rw [ZE9];exact hb)).trans (hc j u hu)⟩⟩
theorem Reads.more (h:Reads w B size A n xs) (hB:B<=B'):Reads w B' size A n xs:=
 ⟨h.1,λ hn=>by
  obtain⟨ad,e,hb,hc⟩:=h.2 hn;exact⟨ad,e,by omega,hc⟩⟩
theorem Reads.below (h:Reads w B size A n xs) (hb:Below B w w'):Reads w' B size A n xs:=h.keep λ _ hp=>hb.cell hp
theorem Reads.drew (h:Reads w B size A n xs):Reads w.drew B size A n xs:=h
theorem Reads.drewN (h:Reads w B size A n xs) (k:Nat):Reads (w.drewN k) B size A n xs:=h
theorem Reads.alloc (h:Reads w B size A n xs) (hB:B<=w.heap.size) (o:Obj):Reads (w.alloc o) B size A n xs:=h.keep λ p hp=>World.cell?_alloc_lt w o p (by omega)
theorem Reads.setCell (h:Reads w B size A n xs) {p:Addr} (hB:B<=p.block) (u:Value):Reads (w.setCell p u) B size A n xs:=
 h.keep λ q hq=>World.cell?_setCell_other w p q u (λ e=>by subst e;omega)
theorem Reads.grown (h:Reads w B size A n xs) {row:Option Nat} (hg:w.grownBy w' row) (hB:B<=w.heap.size) (hr:∀ g,row=some g->B<=g):Reads w' B size A n xs:=
 h.keep λ p hp=>World.cell?_of_block (hg.block p.block (by omega) (λ e=>by have:=hr _ e.symm;omega))
theorem Reads.cut (h:Reads w B size A n xs) {k cap:Nat} (hk:k<=n) (hc:n<=cap):
 Reads w B size (if cap=k then A else A.map (·.add (k*size))) (n-k) (xs.drop (k*size)):=by
 refine⟨by rw [List.length_drop,h.1,Nat.sub_mul],λ hn=> ?_⟩;obtain⟨ad,rfl,hb,hcell⟩:=h.2 (by omega);rw [if_neg (by omega)];refine⟨ad.add (k*size),rfl,by rw [ZE9];exact hb,λ j u hu=> ?_⟩;rw [jx6];exact hcell _ u (by rw [<-hu,List.getElem?_drop])
theorem Reads.of_own {base:Nat} {e:TypeId} {c:Nat} (h:w.ownsRow base e size (.slice A n c) n xs):Reads w w.heap.size size A n xs:=by
 refine⟨h.1,λ hn=> ?_⟩;obtain⟨g,cap,hv,_,hlt⟩:=h.form hn;have hA:A=some ⟨g,0,none⟩:=by injection hv
 subst hA;exact⟨_,rfl,hlt,h.cells (g:=g) rfl⟩
end
def Blk (w:World) (g:Nat) (t:TypeId) (cs:Array Value):Prop:=w.heap[g]? =some (.cells cs t (0,0))
section
variable {w w':World} {g:Nat} {t:TypeId} {cs:Array Value}
theorem Blk.lt (h:Blk w g t cs):g<w.heap.size:=by
 rcases Nat.lt_or_ge g w.heap.size with hlt|hge
 . exact hlt
 . unfold Blk at h;rw [Array.getElem?_eq_none hge] at h;cases h
theorem Blk.cell (h:Blk w g t cs) (i:Nat):w.cell? ⟨g,i,none⟩=cs[i]? :=cell_of_row w g i cs t (0,0) h
theorem Blk.frozen (h:Blk w g t cs) (i:Nat):w.frozen? ⟨g,i,none⟩=false:=by
 unfold Blk at h;simp [World.frozen?,h]
theorem Blk.e0 {a:Value} {l:List Value} (h:Blk w g t (a::l).toArray):w.cell? ⟨g,0,none⟩=some a:=h.cell 0
theorem Blk.e1 {a b:Value} {l:List Value} (h:Blk w g t (a::b::l).toArray):w.cell? ⟨g,1,none⟩=some b:=h.cell 1
theorem Blk.c2 {a b:Value} {l:List Value} (h:Blk w g t (a::b::l).toArray):w.cell? ⟨g,0,none⟩=some a/\w.cell? ⟨g,1,none⟩=some b:=⟨h.cell 0,h.cell 1⟩
theorem Blk.f2 (h:Blk w g t cs):w.frozen? ⟨g,0,none⟩=false/\w.frozen? ⟨g,1,none⟩=false:=⟨h.frozen 0,h.frozen 1⟩
theorem Blk.e2 {a b c:Value} {l:List Value} (h:Blk w g t (a::b::c::l).toArray):w.cell? ⟨g,2,none⟩=some c:=h.cell 2
theorem Blk.c3 {a b c:Value} {l:List Value} (h:Blk w g t (a::b::c::l).toArray):w.cell? ⟨g,0,none⟩=some a/\w.cell? ⟨g,1,none⟩=some b/\w.cell? ⟨g,2,none⟩=some c:=⟨h.cell 0,h.cell 1,h.cell 2⟩
theorem Blk.f3 (h:Blk w g t cs):w.frozen? ⟨g,0,none⟩=false/\w.frozen? ⟨g,1,none⟩=false/\w.frozen? ⟨g,2,none⟩=false:=⟨h.frozen 0,h.frozen 1,h.frozen 2⟩
theorem Blk.e3 {a b c d:Value} {l:List Value} (h:Blk w g t (a::b::c::d::l).toArray):w.cell? ⟨g,3,none⟩=some d:=h.cell 3
theorem Blk.c4 {a b c d:Value} {l:List Value} (h:Blk w g t (a::b::c::d::l).toArray):w.cell? ⟨g,0,none⟩=some a/\w.cell? ⟨g,1,none⟩=some b/\w.cell? ⟨g,2,none⟩=some c/\w.cell? ⟨g,3,none⟩=some d:=⟨h.cell 0,h.cell 1,h.cell 2,h.cell 3⟩
theorem Blk.f4 (h:Blk w g t cs):w.frozen? ⟨g,0,none⟩=false/\w.frozen? ⟨g,1,none⟩=false/\w.frozen? ⟨g,2,none⟩=false/\w.frozen? ⟨g,3,none⟩=false:=⟨h.frozen 0,h.frozen 1,h.frozen 2,h.frozen 3⟩
theorem Blk.e4 {a b c d e:Value} {l:List Value} (h:Blk w g t (a::b::c::d::e::l).toArray):w.cell? ⟨g,4,none⟩=some e:=h.cell 4
theorem Blk.c5 {a b c d e:Value} {l:List Value} (h:Blk w g t (a::b::c::d::e::l).toArray):w.cell? ⟨g,0,none⟩=some a/\w.cell? ⟨g,1,none⟩=some b/\w.cell? ⟨g,2,none⟩=some c/\w.cell? ⟨g,3,none⟩=some d/\w.cell? ⟨g,4,none⟩=some e:=⟨h.cell 0,h.cell 1,h.cell 2,h.cell 3,h.cell 4⟩
theorem Blk.f5 (h:Blk w g t cs):w.frozen? ⟨g,0,none⟩=false/\w.frozen? ⟨g,1,none⟩=false/\w.frozen? ⟨g,2,none⟩=false/\w.frozen? ⟨g,3,none⟩=false/\w.frozen? ⟨g,4,none⟩=false:=⟨h.frozen 0,h.frozen 1,h.frozen 2,h.frozen 3,h.frozen 4⟩
theorem Blk.e5 {a b c d e f:Value} {l:List Value} (h:Blk w g t (a::b::c::d::e::f::l).toArray):w.cell? ⟨g,5,none⟩=some f:=h.cell 5
theorem Blk.c6 {a b c d e f:Value} {l:List Value} (h:Blk w g t (a::b::c::d::e::f::l).toArray):w.cell? ⟨g,0,none⟩=some a/\w.cell? ⟨g,1,none⟩=some b/\w.cell? ⟨g,2,none⟩=some c/\w.cell? ⟨g,3,none⟩=some d/\w.cell? ⟨g,4,none⟩=some e/\w.cell? ⟨g,5,none⟩=some f:=⟨h.cell 0,h.cell 1,h.cell 2,h.cell 3,h.cell 4,h.cell 5⟩
theorem Blk.f6 (h:Blk w g t cs):w.frozen? ⟨g,0,none⟩=false/\w.frozen? ⟨g,1,none⟩=false/\w.frozen? ⟨g,2,none⟩=false/\w.frozen? ⟨g,3,none⟩=false/\w.frozen? ⟨g,4,none⟩=false/\w.frozen? ⟨g,5,none⟩=false:=⟨h.frozen 0,h.frozen 1,h.frozen 2,h.frozen 3,h.frozen 4,h.frozen 5⟩
theorem Blk.e6 {a b c d e f i:Value} {l:List Value} (h:Blk w g t (a::b::c::d::e::f::i::l).toArray):w.cell? ⟨g,6,none⟩=some i:=h.cell 6
theorem Blk.c7 {a b c d e f i:Value} {l:List Value} (h:Blk w g t (a::b::c::d::e::f::i::l).toArray):w.cell? ⟨g,0,none⟩=some a/\w.cell? ⟨g,1,none⟩=some b/\w.cell? ⟨g,2,none⟩=some c/\w.cell? ⟨g,3,none⟩=some d/\w.cell? ⟨g,4,none⟩=some e/\w.cell? ⟨g,5,none⟩=some f/\w.cell? ⟨g,6,none⟩=some i:=⟨h.cell 0,h.cell 1,h.cell 2,h.cell 3,h.cell 4,h.cell 5,h.cell 6⟩
theorem Blk.f7 (h:Blk w g t cs):w.frozen? ⟨g,0,none⟩=false/\w.frozen? ⟨g,1,none⟩=false/\w.frozen? ⟨g,2,none⟩=false/\w.frozen? ⟨g,3,none⟩=false/\w.frozen? ⟨g,4,none⟩=false/\w.frozen? ⟨g,5,none⟩=false/\w.frozen? ⟨g,6,none⟩=false:=⟨h.frozen 0,h.frozen 1,h.frozen 2,h.frozen 3,h.frozen 4,h.frozen 5,h.frozen 6⟩
theorem Blk.e7 {a b c d e f i k:Value} {l:List Value} (h:Blk w g t (a::b::c::d::e::f::i::k::l).toArray):w.cell? ⟨g,7,none⟩=some k:=h.cell 7
theorem Blk.c8 {a b c d e f i k:Value} {l:List Value} (h:Blk w g t (a::b::c::d::e::f::i::k::l).toArray):w.cell? ⟨g,0,none⟩=some a/\w.cell? ⟨g,1,none⟩=some b/\w.cell? ⟨g,2,none⟩=some c/\w.cell? ⟨g,3,none⟩=some d/\w.cell? ⟨g,4,none⟩=some e/\w.cell? ⟨g,5,none⟩=some f/\w.cell? ⟨g,6,none⟩=some i/\w.cell? ⟨g,7,none⟩=some k:=⟨h.cell 0,h.cell 1,h.cell 2,h.cell 3,h.cell 4,h.cell 5,h.cell 6,h.cell 7⟩
theorem Blk.f8 (h:Blk w g t cs):w.frozen? ⟨g,0,none⟩=false/\w.frozen? ⟨g,1,none⟩=false/\w.frozen? ⟨g,2,none⟩=false/\w.frozen? ⟨g,3,none⟩=false/\w.frozen? ⟨g,4,none⟩=false/\w.frozen? ⟨g,5,none⟩=false/\w.frozen? ⟨g,6,none⟩=false/\w.frozen? ⟨g,7,none⟩=false:=⟨h.frozen 0,h.frozen 1,h.frozen 2,h.frozen 3,h.frozen 4,h.frozen 5,h.frozen 6,h.frozen 7⟩
theorem Blk.e8 {a b c d e f i k m:Value} {l:List Value} (h:Blk w g t (a::b::c::d::e::f::i::k::m::l).toArray):w.cell? ⟨g,8,none⟩=some m:=h.cell 8
theorem Blk.c9 {a b c d e f i k m:Value} {l:List Value} (h:Blk w g t (a::b::c::d::e::f::i::k::m::l).toArray):w.cell? ⟨g,0,none⟩=some a/\w.cell? ⟨g,1,none⟩=some b/\w.cell? ⟨g,2,none⟩=some c/\w.cell? ⟨g,3,none⟩=some d/\w.cell? ⟨g,4,none⟩=some e/\w.cell? ⟨g,5,none⟩=some f/\w.cell? ⟨g,6,none⟩=some i/\w.cell? ⟨g,7,none⟩=some k/\w.cell? ⟨g,8,none⟩=some m:=⟨h.cell 0,h.cell 1,h.cell 2,h.cell 3,h.cell 4,h.cell 5,h.cell 6,h.cell 7,h.cell 8⟩
theorem Blk.f9 (h:Blk w g t cs):w.frozen? ⟨g,0,none⟩=false/\w.frozen? ⟨g,1,none⟩=false/\w.frozen? ⟨g,2,none⟩=false/\w.frozen? ⟨g,3,none⟩=false/\w.frozen? ⟨g,4,none⟩=false/\w.frozen? ⟨g,5,none⟩=false/\w.frozen? ⟨g,6,none⟩=false/\w.frozen? ⟨g,7,none⟩=false/\w.frozen? ⟨g,8,none⟩=false:=⟨h.frozen 0,h.frozen 1,h.frozen 2,h.frozen 3,h.frozen 4,h.frozen 5,h.frozen 6,h.frozen 7,h.frozen 8⟩
theorem Blk.z4 (h:Blk w g t #[.int .u64 0,.int .u64 0,.int .u64 0,.int .u64 0]):w.cell? ⟨g,0,none⟩=some (.int .u64 0)/\w.cell? ⟨g,1,none⟩=some (.int .u64 0)/\w.cell? ⟨g,2,none⟩=some (.int .u64 0)/\w.cell? ⟨g,3,none⟩=some (.int .u64 0):=⟨h.cell 0,h.cell 1,h.cell 2,h.cell 3⟩
theorem Blk.new (w:World) (t:TypeId) (cs:Array Value):Blk (w.alloc (.cells cs t)) w.heap.size t cs:=heap_alloc_new w _
theorem Blk.drew (h:Blk w g t cs):Blk w.drew g t cs:=h
theorem Blk.drewN (h:Blk w g t cs) (n:Nat):Blk (w.drewN n) g t cs:=h
theorem Blk.alloc (h:Blk w g t cs) (o:Obj):Blk (w.alloc o) g t cs:=(Below.heap_alloc w o g h.lt).trans h
theorem Blk.set_ (h:Blk w g t cs) (i:Nat) (u:Value):Blk (w.setCell ⟨g,i,none⟩ u) g t (cs.setIfInBounds i u):=by
 unfold Blk at h⊢;simp [World.setCell,Array.getElem?_modify,h]
theorem Blk.far (h:Blk w g t cs) {p:Addr} (hp:g≠p.block) (u:Value):Blk (w.setCell p u) g t cs:=(Below.heap_setCell w p u g hp).trans h
theorem Blk.below {B:Nat} (h:Blk w g t cs) (hb:Below B w w') (hg:g<B):Blk w' g t cs:=(hb.block g hg).trans h
theorem Blk.grown {row:Option Nat} (h:Blk w g t cs) (hb:w.grownBy w' row) (hg:some g≠row):Blk w' g t cs:=(hb.block g h.lt hg).trans h
end
section
variable {P:Program} (w:World)
theorem ja0 (base:Nat) (t ty e:TypeId) (i:TypeInfo) (size:Nat) (ht:P.underlying t=some (.slice e)) (hi:P.info? e=some i)
 (v:Value) (n:Nat) (xs:List Value) (hown:w.ownsRow base e size v n xs) (c:Nat):(Builtin.append_ #[t,t] ty #[v,.slice none 0 c]).run P w= .ok v w:=by
 rcases hown.2 with⟨rfl,rfl⟩|⟨g,cap,cur,rfl,_,_,hnc,_⟩
 . simp [Builtin.append_,run_underlying ht,sizeOf,typeInfo,hi,Builtin.lenOf,Builtin.firstCells]
 . simp [Builtin.append_,run_underlying ht,sizeOf,typeInfo,hi,Builtin.lenOf,Builtin.firstCells,hnc,storeCells]
theorem Zo2 (base:Nat) (t ty e:TypeId) (i:TypeInfo) (z:Value) (size bytes:Nat) (ht:P.underlying t=some (.slice e)) (hi:P.info? e=some i) (hz:i.zero=some z)
 (hsize:i.size=size) (hby:i.bytes=bytes) (hzs:z.cells.size=size) (hsz:0<size)
 (v:Value) (n:Nat) (xs:List Value) (hown:w.ownsRow base e size v n xs)
 (B:Nat) (A:Option Addr) (m c:Nat) (news:List Value) (hr:Reads w B size A m news) (h1:∀ u∈news,u.oneCell'=true)
 (h63:n+m<=maxLen) (hbytes:(n+m)*bytes<=140737488355328) (hbase:base<=w.heap.size):
 ∃ v' w',(Builtin.append_ #[t,t] ty #[v,.slice A m c]).run P w= .ok v' w'/\w'.ownsRow base e size v' (n+m) (xs++news)/\w.grownBy w' v.ownBlock/\
  (v'.ownBlock=v.ownBlock\/v'.ownBlock=some w.heap.size):=by
 rcases A with _|ad
 . have hm:m=0:=by
    rcases Nat.eq_zero_or_pos m with h0|h0
    . exact h0
    . obtain⟨ad,h,_⟩:=hr.2 h0;cases h
   subst hm;have hn:news= []:=List.eq_nil_of_length_eq_zero (by simpa using hr.1);subst hn;exact⟨v,w,ja0 w base t ty e i size ht hi v n xs hown c,by simpa using hown,World.grownBy.refl w _,.inl rfl⟩
 . have hcells:∀ j u,news[j]? =some u->w.cell? (ad.add j)=some u:=by
    intro j u hu;rcases Nat.eq_zero_or_pos m with h0|h0
    . subst h0;have hn:news= []:=List.eq_nil_of_length_eq_zero (by simpa using hr.1);subst hn;simp at hu
    . obtain⟨ad',h,_,hc⟩:=hr.2 h0;injection h with h;subst h;exact hc j u hu
   obtain⟨v',w',hrun,h2,h3,_,h5⟩:=run_append_own_at (P:=P) w base t ty e i z size bytes ht hi hz hsize hby hzs hsz v n xs hown ad m c news hr.1 hcells h1 h63 hbytes hbase;exact⟨v',w',hrun,h2,h3,h5⟩
theorem qi0 {o:Oper} {a:Act} {K:Act->World->Prop} {Q:Exit->Act->World->Prop} (s x:Operand) (t:TypeId)
 (ho:o.op= .call {callee:= .builtin .append,args:=#[s,x],argTypes:=#[t,t]})
 (base:Nat) (e:TypeId) (i:TypeInfo) (z:Value) (size bytes:Nat) (ht:P.underlying t=some (.slice e)) (hi:P.info? e=some i) (hz:i.zero=some z)
 (hsize:i.size=size) (hby:i.bytes=bytes) (hzs:z.cells.size=size) (hsz:0<size)
 (v:Value) (n:Nat) (xs:List Value) (hs:a.eval s=v) (hown:w.ownsRow base e size v n xs)
 (B:Nat) (A:Option Addr) (m c:Nat) (news:List Value) (hx:a.eval x= .slice A m c) (hr:Reads w B size A m news) (h1:∀ u∈news,u.oneCell'=true)
 (h63:n+m<=maxLen) (hbytes:(n+m)*bytes<=140737488355328) (hbase:base<=w.heap.size)
 (h:∀ v' w',w'.ownsRow base e size v' (n+m) (xs++news)->w.grownBy w' v.ownBlock->(v'.ownBlock=v.ownBlock\/v'.ownBlock=some w.heap.size)->K (a.put o.dst v') w'):o.wp P a w K Q:=by
 obtain⟨v',w',hrun,h2,h3,h4⟩:=Zo2 (P:=P) w base t o.type e i z size bytes ht hi hz hsize hby hzs hsz v n xs hown B A m c news hr h1 h63 hbytes hbase;unfold Oper.wp execOp;simp only [ho,resolve,invoke,builtin,Sem.run_bind,Sem.run_pure,Result.andThen_ok,List.map_toArray,List.map_cons,List.map_nil,hs,hx,hrun];exact h v' w' h2 h3 h4
theorem Yk6 {ops:Array Oper} {rest:List Oper} {o:Oper} {a:Act} {Q:Exit->Act->World->Prop} (hgd:o.guard=none) (s x:Operand) (t:TypeId)
 (ho:o.op= .call {callee:= .builtin .append,args:=#[s,x],argTypes:=#[t,t]})
 (base:Nat) (e:TypeId) (i:TypeInfo) (z:Value) (size bytes:Nat) (ht:P.underlying t=some (.slice e)) (hi:P.info? e=some i) (hz:i.zero=some z)
 (hsize:i.size=size) (hby:i.bytes=bytes) (hzs:z.cells.size=size) (hsz:0<size)
 (v:Value) (n:Nat) (xs:List Value) (hs:a.eval s=v) (hown:w.ownsRow base e size v n xs)
 (B:Nat) (A:Option Addr) (m c:Nat) (news:List Value) (hx:a.eval x= .slice A m c) (hr:Reads w B size A m news) (h1:∀ u∈news,u.oneCell'=true)
 (h63:n+m<=maxLen) (hbytes:(n+m)*bytes<=140737488355328) (hbase:base<=w.heap.size)
 (h:∀ v' w',w'.ownsRow base e size v' (n+m) (xs++news)->w.grownBy w' v.ownBlock->(v'.ownBlock=v.ownBlock\/v'.ownBlock=some w.heap.size)->wpList P ops Q rest (a.put o.dst v') w'):wpList P ops Q (o::rest) a w:=
 wpList_plain hgd λ _ hK=>qi0 w s x t ho base e i z size bytes ht hi hz hsize hby hzs hsz v n xs hs hown B A m c news hx hr h1 h63 hbytes hbase λ v' w' h2 h3 h4=>hK _ _ (h v' w' h2 h3 h4)
end
theorem K97 {P:Program} {f:FuncId} {args:Array Value} {w:World} {n:Nat} {v:Value}
 (h:Calls P f args (w.drewN n) λ e w'=>e= .returned v/\w.drewN n=w'):Calls P f args (w.drewN n) λ e w''=>e= .returned v/\∃ m,w''=w.drewN m:=
 h.mono λ _ _ ⟨he,hm⟩=>⟨he,n,hm.symm⟩
end Go.Proofs.YtngepacmgabmaaaGreatDoor
