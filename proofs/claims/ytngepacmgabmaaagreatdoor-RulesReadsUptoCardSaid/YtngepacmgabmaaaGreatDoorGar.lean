/- Walks: wickref.place over a table of wor; The memory of wickref.readRule: its boxe .. -/
import Derived.Test.YtngepacmgabmaaaGreatDoorGao
import Derived.Laws.BytesString
namespace Go.Proofs.YtngepacmgabmaaaGreatDoor
open Go.RowKit
set_option linter.unusedVariables false
set_option linter.unusedSimpArgs false
structure TbW (g:Nat) (L:List ByteArray) (w:World):Prop where
 lt:g<w.heap.size
 at_:∀ k,k<L.length->w.cell? ⟨g,k,none⟩=some (.string (L.getD k ByteArray.empty))
theorem TbW.below {g:Nat} {L:List ByteArray} {w w':World} (h:TbW g L w) (hb:Below w.heap.size w w'):TbW g L w':=⟨Nat.lt_of_lt_of_le h.lt hb.size,λ k hk=>(hb.cell (p:=⟨g,k,none⟩) h.lt).trans (h.at_ k hk)⟩
structure TW (w:World):Prop where
 v:TbW 0 Jf7 w
 o:TbW 2 Zd4 w
 a:TbW 1 XF4 w
 p:PW w
theorem TW.below {w w':World} (h:TW w) (hb:Below w.heap.size w w'):TW w':=⟨h.v.below hb,h.o.below hb,h.a.below hb,h.p.below hb⟩
section
variable (L:List ByteArray) (g n:Nat) (x:ByteArray) (w:World)
set_option maxHeartbeats 2000000 in
theorem YE5 (hn:L.length=n) (h1:1<=n) (h2:n<=100) (hT:TbW g L w):
 Calls Tryz.prog 52 #[.string x,.slice (some ⟨g,0,none⟩) n n] w λ e w'=>e= .returned (.int .i64 (plW L x))/\w=w':=by
 obtain⟨R,hR⟩:∃ R,R=plW L x:=⟨_,rfl⟩;rw [<-hR];have HR:=qh (show R=y77 L x (n-1) 1 from by rw [hR,<-hn];rfl);have HT:=qh λ k (hk:k<n)=>hT.at_ k (by omega)
 clear hR hT hn;go_enter Tryz.func52,Tryz.ntmps52;go_wp2_with fail;go_loop [5] (λ u=>∃ k:Nat,u= .int .i64 (k:Int)/\1<=k/\k<=n/\Hid (R=y77 L x (n-k) k)) (λ u=>n-(intOf u).toNat)
 case atStart=>exact⟨1,rfl,Nat.le_refl _,h1,HR⟩
 case round=>
  obtain⟨k,rfl,hk1,hk,HA⟩:=hrel;have kw:IntKind.i64.wrap ((k:Int)+1)=(k:Int)+1:=IntWalk.i64_in _ (by omega);by_cases hlk:k<n
  . have k1:(k:Int)<(n:Int):=(by omega);have k2:(0:Int)<=(k:Int):=(by omega);have y0:=HT.out k hlk;have HA2:Hid (R=if L.getD k ByteArray.empty=x then (k:Int) else y77 L x (n-(k+1)) (k+1)):=qh (by rw [HA.out,show n-k=(n-(k+1))+1 from by omega];rfl);obtain⟨S,hS⟩:∃ S,S=L.getD k ByteArray.empty:=⟨_,rfl⟩;rw [<-hS] at y0 HA2;clear hS HA;by_cases he:S=x
    . have e1:=Kb0 he;have HR2:Hid (R=(k:Int)):=qh (by rw [HA2.out,if_pos he]);clear he HA2;go_wp2_with fail;go_ret;exact⟨by rw [HR2.out];rfl,rfl⟩
    . have e1:=yC2 he;have HR2:Hid (R=y77 L x (n-(k+1)) (k+1)):=qh (by rw [HA2.out,if_neg he]);clear he HA2;go_wp2_with fail;go_round
      case rel=>exact⟨k+1,by go_num,by omega,by omega,HR2⟩
      case measure=>simp [intOf];omega
  . obtain rfl:k=n:=(by omega);have HR2:Hid (R=0):=qh (by rw [HA.out,Nat.sub_self];rfl);clear hlk;go_wp2_with fail;go_ret;exact⟨by rw [HR2.out];rfl,rfl⟩
theorem JT5 (hT:TW w):Calls Tryz.prog 52 #[.string x,.slice (some ⟨0,0,none⟩) 13 13] w λ e w'=>e= .returned (.int .i64 (plW Jf7 x))/\w=w':=YE5 Jf7 _ 13 x w rfl (by decide) (by decide) hT.v
theorem jS8 (hT:TW w):Calls Tryz.prog 52 #[.string x,.slice (some ⟨2,0,none⟩) 13 13] w λ e w'=>e= .returned (.int .i64 (plW Zd4 x))/\w=w':=YE5 Zd4 _ 13 x w rfl (by decide) (by decide) hT.o
theorem qs8 (hT:TW w):Calls Tryz.prog 52 #[.string x,.slice (some ⟨1,0,none⟩) 6 6] w λ e w'=>e= .returned (.int .i64 (plW XF4 x))/\w=w':=YE5 XF4 _ 6 x w rfl (by decide) (by decide) hT.a
end
theorem QS2 (s p:ByteArray) (w:World) (hs:s.size<=1048576) (hp:p.size<=1048576):
 Calls Tryz.prog 51 #[.string s,.int .i64 0,.string p] w λ e w'=>e= .returned (.bool (j11 s p))/\w=w':=by
 have e:atB s.data.toList 0 p.data.toList=j11 s p:=by
  unfold atB j11 Lib.occAt Lib.hasPrefix;rw [decide_eq_true (Int.le_refl 0),decide_eq_true (show (0:Int)<=(s.data.toList.length:Int) by omega)];rfl
 rw [<-e];exact yb5 s p 0 w (by omega) (by omega) (by decide) (by decide)
theorem z06 (s:ByteArray) (w:World) (hs:s.size<=maxLen):
 Calls Tryz.prog 18 #[.string s] w λ e w'=>e= .returned (.int .i64 (rnN s))/\w=w':=by
 have C:=qh (kt9 s 999999999 w hs);obtain⟨R,hR⟩:∃ R,R=rnN s:=⟨_,rfl⟩;rw [<-hR];have HR:=qh (show R=smN s 999999999 from hR);clear hR;go_enter Tryz.func18,Tryz.ntmps18;go_wp2_with fail;refine C.out.mono ?_;rintro e w' ⟨rfl,rfl⟩;go_wp2_with fail;go_ret;exact⟨by rw [HR.out];rfl,rfl⟩
theorem kQ2 {w w':World} {B b:Nat} {E:TypeId} {sz n:Nat} {v:Value} {xs:List Value} (h:w.ownsRow B E sz v n xs) (hl:∀ x,v.ownBlock=some x->x<b) (hb:Below b w w'):w'.ownsRow B E sz v n xs:=by
 rcases h.2 with e|⟨x,cap,cur,e,hx,hw,r⟩
 . exact⟨h.1,.inl e⟩
 . exact⟨h.1,.inr ⟨x,cap,cur,e,hx,(hb.block x (hl x (by rw [e];rfl))).trans hw,r⟩⟩
structure Lp (w wr:World) (r:Ru) (b g c:Nat) (L:List ByteArray) (E:TypeId) (sz:Nat) (u:Value) (n:Nat) (xs:List Value) (V:Value) (nv:Nat) (xv:List Value):Prop where
 r2:R2 w wr r
 own:wr.ownsRow b E sz u n xs
 ps:OS wr (w.heap.size+2) (.slice (some ⟨g,0,none⟩) L.length c) L
 v:wr.ownsRow (w.heap.size+2) 51 3 V nv xv
 hg:g<b
 hV:∀ x,V.ownBlock=some x->x<b
 b0:w.heap.size+2<=b
 b1:b<=wr.heap.size
structure Lz (w wr:World) (r:Ru) (b g c:Nat) (L:List ByteArray) (E:TypeId) (sz:Nat) (u:Value) (n:Nat) (xs:List Value) (V:Value) (nv:Nat) (xv:List Value) (gz:Nat) (t:TypeId) (cs:Array Value):Prop where
 p:Lp w wr r b g c L E sz u n xs V nv xv
 z:Blk wr gz t cs
 hz:b<=gz
 hu:u.ownBlock≠some gz
section
variable {w wr wr':World} {r r':Ru} {b g c:Nat} {L:List ByteArray} {E:TypeId} {sz:Nat} {u u':Value} {n n':Nat} {xs xs':List Value} {V:Value} {nv:Nat} {xv:List Value} {gz:Nat} {t:TypeId} {cs:Array Value}
theorem Lp.kept (h:Lp w wr r b g c L E sz u n xs V nv xv) (hb:Below wr.heap.size wr wr'):Lp w wr' r b g c L E sz u n xs V nv xv:=
 ⟨h.r2.kept hb,ji4 h.own hb,ji4 h.ps hb,ji4 h.v hb,h.hg,h.hV,h.b0,Nat.le_trans h.b1 hb.size⟩
theorem Lz.kept (h:Lz w wr r b g c L E sz u n xs V nv xv gz t cs) (hb:Below wr.heap.size wr wr'):Lz w wr' r b g c L E sz u n xs V nv xv gz t cs:=
 ⟨h.p.kept hb,h.z.below hb (Blk.lt h.z),h.hz,h.hu⟩
theorem Lz.drewN (h:Lz w wr r b g c L E sz u n xs V nv xv gz t cs) (q:Nat):Lz w (wr.drewN q) r b g c L E sz u n xs V nv xv gz t cs:=h.kept (below_drewN (Below.refl _ _) q)
theorem Lp.box (h:Lp w wr r b g c L E sz u n xs V nv xv) (t:TypeId) (cs:Array Value):Lz w (wr.alloc (.cells cs t)) r b g c L E sz u n xs V nv xv wr.heap.size t cs:=
 ⟨h.kept ((Below.refl _ _).alloc (Nat.le_refl _) _),Blk.new _ _ _,h.b1,λ e=>by have:=(World.ownsRow.lt h.own _ e).2;omega⟩
theorem Lz.set (h:Lz w wr r b g c L E sz u n xs V nv xv gz t cs) (j:Nat) (a:Value):Lz w (wr.setCell ⟨gz,j,none⟩ a) r b g c L E sz u n xs V nv xv gz t (cs.setIfInBounds j a):=by
 have h0:=h.p.b0;have hz:=h.hz;have hr2:R2 w (wr.setCell ⟨gz,j,none⟩ a) r:=⟨h.p.r2.z.far (by dsimp only;omega) _,h.p.r2.v.far (by dsimp only;omega) _,h.p.r2.be.setCell (p:=⟨gz,j,none⟩) (by dsimp only;omega) _⟩;refine⟨⟨hr2,ownsRow_setCell_other h.p.own h.hu a,ownsRow_setCell_other (a:=⟨gz,j,none⟩) h.p.ps ?_ a,ownsRow_setCell_other (a:=⟨gz,j,none⟩) h.p.v ?_ a,h.p.hg,h.p.hV,h0,?_⟩,h.z.set_ j a,hz,h.hu⟩
 . intro e;have:=h.p.hg;have e2:g=gz:=(by simpa [Value.ownBlock] using e);omega
 . intro e;have:=h.p.hV _ e;dsimp only at this;omega
 . have e:(wr.setCell ⟨gz,j,none⟩ a).heap.size=wr.heap.size:=(by simp [World.setCell]);rw [e];exact h.p.b1
theorem Lz.app (h:Lz w wr r b g c L E sz u n xs V nv xv gz t cs) (ho:wr'.ownsRow b E sz u' n' xs') (hb:Below b wr wr') (i:Nat) (e:(Zn7 r).toArray.setIfInBounds i u'=(Zn7 r').toArray):Lp w (wr'.setCell ⟨w.heap.size+1,i,none⟩ u') r' b g c L E sz u' n' xs' V nv xv:=by
 have h0:=h.p.b0;have hr2:R2 w wr' r:=⟨h.p.r2.z.below hb (by omega),h.p.r2.v.below hb (by omega),h.p.r2.be.trans (hb.mono (by omega))⟩;refine⟨hr2.set i u' e,K14 ho (by dsimp only;omega) _,K14 (kQ2 h.p.ps (λ x hx=> ?_) hb) (by simp) _,K14 (kQ2 h.p.v h.p.hV hb) (by simp) _,h.p.hg,h.p.hV,h0,?_⟩
 . have:=h.p.hg;have e2:g=x:=(by simpa [Value.ownBlock] using hx);omega
 . have e2:(wr'.setCell ⟨w.heap.size+1,i,none⟩ u').heap.size=wr'.heap.size:=(by simp [World.setCell]);rw [e2];exact Nat.le_trans h.p.b1 hb.size
theorem Lz.mid (h:Lz w wr r b g c L E sz u n xs V nv xv gz t cs) (hb:Below b wr wr'):R2 w wr' r:=by
 have h0:=h.p.b0;exact⟨h.p.r2.z.below hb (by omega),h.p.r2.v.below hb (by omega),h.p.r2.be.trans (hb.mono (by omega))⟩
theorem Lp.at_ (h:Lp w wr r b g c L E sz u n xs V nv xv) {k:Nat} (hk:k<L.length):wr.cell? ⟨g,k,none⟩=some (.string L[k]):=by
 obtain⟨g',e,_,_,_,hc⟩:=OS.at_ h.ps (by omega);cases e;exact hc k hk
end
theorem Yv8 {s p:ByteArray} (h:j11 s p=true):p.size<=s.size:=by
 unfold j11 at h;rw [<-Lib.hasPrefix_raw,Bool.and_eq_true,decide_eq_true_eq] at h;exact h.1
theorem xa8 {s p:ByteArray} (h:j11 s p=false):Ju6 s p=s:=by
 unfold Ju6 Lib.trimPrefix;rw [if_neg (by unfold j11 at h;rw [h];decide)]
theorem jH8 {s p:ByteArray} (h:j11 s p=true) (h1:p.size=1):Ju6 s p=s.extract 1 s.size:=by
 unfold j11 at h;rw [<-Lib.hasPrefix_raw,Bool.and_eq_true,decide_eq_true_eq] at h;rw [<-h1];exact Lib.trimPrefix_hit s p h.1 h.2
theorem KB1 (W:World) (n:Int):(convert 66 9 (.slice (some ⟨W.heap.size,0,none⟩) 1 1)).run Tryz.prog (W.alloc (.cells #[.int .u8 n] 5))= .ok (.string (str [UInt8.ofNat n.toNat])) (W.alloc (.cells #[.int .u8 n] 5)):=by
 rw [run_convert_bytes_arg (P:=Tryz.prog) _ 66 5 Tryz.underlying66 Tryz.underlying5 W.heap.size 0 1 1 [n] rfl (λ i hi=>by
  obtain rfl:i=0:=by omega
  rw [(Blk.new W 5 #[.int .u8 n]).cell 0];rfl) 9 Tryz.underlying9]
 rfl
theorem qn5 (W:World) (n:Int):(convert 66 9 (.slice (some ⟨W.heap.size,0,none⟩) 1 1)).run Tryz.prog (W.alloc (.cells #[.int .u8 n] 5)).drew= .ok (.string (str [UInt8.ofNat n.toNat])) (W.alloc (.cells #[.int .u8 n] 5)).drew:=KB1 W.drew n

def hexT (r:List UInt8):UInt8×Nat:=
 match r with
 |b::c::_=>if (0:Int)<=ixb Jq5 (b.toNat:Int)/\(0:Int)<=ixb Jq5 (c.toNat:Int) then (UInt8.ofNat ((16:Int)*jJ9 (b.toNat:Int)+jJ9 (c.toNat:Int)).toNat,3) else (0,0)
 |_=>(0,0)
theorem escAt (s:ByteArray) (k:Nat) (h:k<s.size):xV0 (s.data.toList.drop k)=
 if (0:Int)<=ixb [110,114,116,115,92,45] (s[k].toNat:Int) then (([10,13,9,32,92,45]:List UInt8).getD (ixb [110,114,116,115,92,45] (s[k].toNat:Int)).toNat 0,1) else if s[k]=120 then hexT (s.data.toList.drop (k+1)) else (0,0):=by
 rw [XT0 s k h];rfl
theorem Kx3 (s:ByteArray) (k:Nat) (h:k+1<s.size):hexT (s.data.toList.drop k)=
 if (0:Int)<=ixb Jq5 (s[k].toNat:Int)/\(0:Int)<=ixb Jq5 (s[k+1].toNat:Int) then (UInt8.ofNat ((16:Int)*jJ9 (s[k].toNat:Int)+jJ9 (s[k+1].toNat:Int)).toNat,3) else (0,0):=by
 rw [XT0 s k (by omega),XT0 s (k+1) h];rfl
theorem QT3 (s:ByteArray) (k:Nat) (h:s.size<=k+1):hexT (s.data.toList.drop k)=(0,0):=by
 have hl:(s.data.toList.drop k).length<2:=by rw [List.length_drop,qX6];omega
 match hd:s.data.toList.drop k with
 | []=>rfl
 | [_]=>rfl
 |_::_::_=>rw [hd] at hl;simp at hl;omega
theorem Kq9 (s:ByteArray) (k:Nat) (h:s.size<=k):xV0 (s.data.toList.drop k)=(0,0):=by rw [YR8 s h];rfl
theorem Ju5 {s:ByteArray} {k:Nat} (h:k<s.size) (h92:s[k]=92) {x:UInt8} {n:Nat} (he:xV0 (s.data.toList.drop (k+1))=(x,n)) (hn:¬n=0):unF (s.data.toList.drop k)=some (x,n+1):=by
 rw [xI2 h,if_pos h92,he];exact if_neg hn
theorem Qe8 {s:ByteArray} {k:Nat} (h:k<s.size) (h92:s[k]=92) {x:UInt8} (he:xV0 (s.data.toList.drop (k+1))=(x,0)):unF (s.data.toList.drop k)=none:=by
 rw [xI2 h,if_pos h92,he];rfl
theorem zc7:∀ b:UInt8,xi9 [110,114,116,115,92,45] [b] 0=ixb [110,114,116,115,92,45] (b.toNat:Int):=k73 (by decide+kernel)
theorem x29:∀ b:UInt8,yk4 (b.toNat:Int) [48,49,50,51,52,53,54,55,56,57,97,98,99,100,101,102]=decide ((0:Int)<=ixb Jq5 (b.toNat:Int)):=k73 (by decide+kernel)
theorem KP4 (s t:ByteArray) (i J:Int) (w:World) (hJ:xi9 s.data.toList t.data.toList i.toNat=J) (hs:s.size<=140737488355328) (ht:t.size<=140737488355328) (h0: -9223372036854775808<=i) (h1:i<=9223372036854775807):
 Calls Tryz.prog 85 #[.string s,.string t,.int .i64 i] w λ e w'=>e= .returned (.int .i64 J)/\w=w':=by
 subst hJ;exact ju8 s t i w hs ht h0 h1
theorem zn9 (k:Nat) (h:k<6):(ByteArray.mk #[10,13,9,32,92,45]).extract k (k+1)=str [([10,13,9,32,92,45]:List UInt8).getD k 0]:=by
 apply zH9;rw [xJ5 _ k (by rw [zO6];exact h),Qe9,Zx6 k h]
theorem QJ3 (b:UInt8) (r:Bool) (hr:decide ((0:Int)<=ixb Jq5 (b.toNat:Int))=r) (w:World):
 Calls Tryz.prog 55 #[.int .u8 (b.toNat:Int),.string ⟨#[48,49,50,51,52,53,54,55,56,57,97,98,99,100,101,102]⟩] w λ e w'=>e= .returned (.bool r)/\w=w':=by
 obtain⟨c1,c2⟩:=j65 b;exact X74 _ _ r ((x29 b).trans hr) w (by decide) c1 c2
set_option maxHeartbeats 8000000 in
set_option maxRecDepth 100000 in
theorem Q85 (s:ByteArray) (w:World) (hs:s.size<=140737488355320):
 Calls Tryz.prog 53 #[.string s] w λ e w'=>e= .returned (.tuple #[.string (str (zn2 s.data.toList)),.int .i64 (KN6 s.data.toList)])/\Below w.heap.size w w':=by
 by_cases h1:s.data.toList= [45]
 . have HQ:=qh (show zn2 s.data.toList= []/\KN6 s.data.toList=0 by simp [zn2,KN6,h1]);have e2:=(kF2 45).trans (decide_eq_true h1);clear h1;go_enter Tryz.func53,Tryz.ntmps53
   go_wp2
   go_ret2;exact⟨by rw [HQ.out.1,HQ.out.2];rfl,Below.refl _ _⟩
 . have e2:=(kF2 45).trans (decide_eq_false h1);have HS:=qh (λ A=>ZX6 (A:=A) h1);have HN:=qh (X16 h1);have H0:=qh (show s.data.toList= []->zn2 s.data.toList= []/\KN6 s.data.toList=3 by intro h;rw [h];simp [zn2,KN6,Jy1]);clear h1;go_enter Tryz.func53,Tryz.ntmps53;go_wp2_with fail;go_loopw [4,5] (λ v i wr=>∃ (k:Nat) (A:List UInt8),k<=s.size/\A.length<=k/\i= .int .i64 k/\v= .string (str A)/\Hid (XP3 unF s.data.toList=(XP3 unF (s.data.toList.drop k)).map (A++ ·))/\Below w.heap.size w wr) (λ _ i _=>s.size-(intOf i).toNat)
   case atStart=>exact⟨0,[],by omega,by simp,rfl,rfl,jt4 _,Below.refl _ _⟩
   case round=>
    obtain⟨k,A,hk,hA,rfl,rfl,HE,hbl⟩:=hrel;have hsz:=hbl.size;have HB:=qh hbl;have hAs:(str A).size<=k:=(by rw [Xp5];omega);clear hbl;by_cases hlt:k<s.size
    . obtain⟨c1,c2⟩:=j65 s[k];have HF:=qh (xI2 hlt);have hne:¬s.data.toList= []:=(by intro h;have:=qX6 s;rw [h] at this;simp at this;omega);have HN2:=qh (HN.out hne);clear hne;by_cases h92:s[k]=92
      . have e92:((s[k].toNat:Int) !=92)=false:=Ku0 (c:=92) h92;have r92:33<=(s[k].toNat:Int)/\(s[k].toNat:Int)<=126:=(by rw [h92];decide);by_cases hk1:k+1<s.size
        . obtain⟨c3,c4⟩:=j65 s[k+1];have e1:((k:Int)+1==s.size)=false:=beq_eq_false_iff_ne.2 (by omega);have i1:(0:Int)<=(k:Int)+1/\(k:Int)+1<s.size:=(by omega);have hl:(s.extract (k+1) (k+2)).data.toList= [s[k+1]]:=xJ5 s (k+1) hk1;have hz2:(s.extract (k+1) (k+2)).size<=1:=(by rw [<-qX6,hl];simp);have HFnd:=qh (show xi9 [110,114,116,115,92,45] (s.extract (k+1) (k+2)).data.toList (0:Int).toNat=ixb [110,114,116,115,92,45] (s[k+1].toNat:Int) by rw [hl];exact zc7 _);have HA2:=qh (escAt s (k+1) hk1);clear hl;rcases ke3 s[k+1] with⟨⟨K,hK⟩,hx⟩|hx
          . have HD:=qh (YG0 (n:=2) (b:=([10,13,9,32,92,45]:List UInt8).getD K 0) hlt (by omega) (Ju5 hlt h92 (HA2.out.trans ((if_pos (by omega)).trans (by rw [hx];rfl))) (by omega)));have HX:=qh (HFnd.out.trans hx);have hk6:(0:Int)<=K/\(K:Int)<6:=(by omega);clear hx h92;go_wp2_with (go_at_call 85;go_must (refine(KP4 _ _ 0 K _ HX.out (by decide) (by omega) (by omega) (by omega)).mono ?_;rintro e w' ⟨rfl,rfl⟩));go_roundw
            case rel=>exact⟨k+2,A++ [([10,13,9,32,92,45]:List UInt8).getD K 0],by omega,by rw [List.length_append];simp;omega,by go_num,kg2 (by rw [zn9 K hK,Yz0]),QL4 HE HD.out,HB.out⟩
            case measure=>simp [intOf];omega
          . have HX:=qh (HFnd.out.trans hx);by_cases h120:s[k+1]=120
            . have e120:((s[k+1].toNat:Int) !=120)=false:=Ku0 (c:=120) h120;have HA3:=qh (HA2.out.trans ((if_neg (by omega)).trans (if_pos h120)));by_cases hk3:k+3<s.size
              . obtain⟨c5,c6⟩:=j65 s[k+2];obtain⟨c7,c8⟩:=j65 s[k+3];have hk2:k+2<s.size:=(by omega);have i2:(0:Int)<=(k:Int)+2/\(k:Int)+2<s.size:=(by omega);have i3:(0:Int)<=(k:Int)+3/\(k:Int)+3<s.size:=(by omega);have d1:=XX8 s[k+2].toNat;have d2:=Xv7 s[k+2].toNat;have d3:=XX8 s[k+3].toNat;have d4:=Xv7 s[k+3].toNat;have HA4:=qh (HA3.out.trans (Kx3 s (k+2) hk3));by_cases p1:(0:Int)<=ixb Jq5 (s[k+2].toNat:Int)
                . have HP1:=qh (decide_eq_true p1);by_cases p2:(0:Int)<=ixb Jq5 (s[k+3].toNat:Int)
                  . have HP2:=qh (decide_eq_true p2);have HD:=qh (YG0 hlt (by omega) (Ju5 hlt h92 (HA4.out.trans (if_pos ⟨p1,p2⟩)) (by omega)));have v1:=zA9 _ p1;have v2:=zA9 _ p2;clear hx h92 h120 p1 p2;go_wp2_with fail;refine(KP4 _ _ 0 (-1) _ HX.out (by decide) (by omega) (by omega) (by omega)).mono ?_;rintro e w' ⟨rfl,rfl⟩;go_wp2_with fail;refine(QJ3 _ true HP1.out _).mono ?_;rintro e w' ⟨rfl,rfl⟩;go_wp2_with fail;refine(QJ3 _ true HP2.out _).mono ?_;rintro e w' ⟨rfl,rfl⟩;go_wp2_with fail;have hcv:=qn5;have j1:IntKind.i64.wrap ((k:Int)+2)=(k:Int)+2:=IntWalk.i64_in _ (by omega);have j2:IntKind.i64.wrap ((k:Int)+3)=(k:Int)+3:=IntWalk.i64_in _ (by omega);have j3:((k:Int)+2).toNat=k+2:=(by omega);have j4:((k:Int)+3).toNat=k+3:=(by omega);have j5:IntKind.i64.wrap (jJ9 s[k+2].toNat*16)=jJ9 s[k+2].toNat*16:=IntWalk.i64_in _ (by omega);have j6:IntKind.i64.wrap (jJ9 s[k+2].toNat*16+jJ9 s[k+3].toNat)=jJ9 s[k+2].toNat*16+jJ9 s[k+3].toNat:=IntWalk.i64_in _ (by omega);have j7:IntKind.u8.wrap (jJ9 s[k+2].toNat*16+jJ9 s[k+3].toNat)=jJ9 s[k+2].toNat*16+jJ9 s[k+3].toNat:=IntWalk.u8_in _ (by omega);have j8:¬9223372036854775807<A.length+1:=(by omega);go_region_law (first|(go_simp;go_at_call 87;refine(Kn9 _ (by omega) (by omega) _).mono ?_;rintro e w' ⟨rfl,rfl⟩))
                    all_goals go_wp2
                    all_goals go_roundw
                    all_goals first
                     |exact⟨k+4,A++ [UInt8.ofNat ((16:Int)*jJ9 (s[k+2].toNat:Int)+jJ9 (s[k+3].toNat:Int)).toNat],by omega,by rw [List.length_append];simp;omega,by go_num,kg2 (by rw [Yz0,Int.mul_comm]),QL4 HE HD.out,(HB.out.alloc hsz _).drew⟩
                     |(simp [intOf];omega)
                  . have HP2:=qh (decide_eq_false p2);have HD:=qh (HN2.out (qH9 HE (Ya6 hlt (Qe8 hlt h92 (HA4.out.trans (if_neg (λ h=>p2 h.2)))))));clear hx h92 h120 p1 p2;go_wp2_with fail;refine(KP4 _ _ 0 (-1) _ HX.out (by decide) (by omega) (by omega) (by omega)).mono ?_;rintro e w' ⟨rfl,rfl⟩;go_wp2_with fail;refine(QJ3 _ true HP1.out _).mono ?_;rintro e w' ⟨rfl,rfl⟩;go_wp2_with fail;refine(QJ3 _ false HP2.out _).mono ?_;rintro e w' ⟨rfl,rfl⟩;go_wp2_with fail;go_ret2;exact⟨by rw [HD.out.1,HD.out.2];rfl,HB.out⟩
                . have HP1:=qh (decide_eq_false p1);have HD:=qh (HN2.out (qH9 HE (Ya6 hlt (Qe8 hlt h92 (HA4.out.trans (if_neg (λ h=>p1 h.1)))))));clear hx h92 h120 p1;go_wp2_with fail;refine(KP4 _ _ 0 (-1) _ HX.out (by decide) (by omega) (by omega) (by omega)).mono ?_;rintro e w' ⟨rfl,rfl⟩;go_wp2_with fail;refine(QJ3 _ false HP1.out _).mono ?_;rintro e w' ⟨rfl,rfl⟩;go_wp2_with fail;go_ret2;exact⟨by rw [HD.out.1,HD.out.2];rfl,HB.out⟩
              . have HD:=qh (HN2.out (qH9 HE (Ya6 hlt (Qe8 hlt h92 (HA3.out.trans (QT3 s (k+2) (by omega)))))));have i4:(s.size:Int)<(k:Int)+4:=(by omega);clear hx h92 h120;go_wp2_with (go_at_call 85;refine(KP4 _ _ 0 (-1) _ HX.out (by decide) (by omega) (by omega) (by omega)).mono ?_;rintro e w' ⟨rfl,rfl⟩);go_ret2;exact⟨by rw [HD.out.1,HD.out.2];rfl,HB.out⟩
            . have e120:((s[k+1].toNat:Int) !=120)=true:=zx7 (c:=120) h120;have HD:=qh (HN2.out (qH9 HE (Ya6 hlt (Qe8 hlt h92 (HA2.out.trans ((if_neg (by omega)).trans (if_neg h120)))))));clear hx h92 h120;go_wp2_with (go_at_call 85;refine(KP4 _ _ 0 (-1) _ HX.out (by decide) (by omega) (by omega) (by omega)).mono ?_;rintro e w' ⟨rfl,rfl⟩);go_ret2;exact⟨by rw [HD.out.1,HD.out.2];rfl,HB.out⟩
        . have HD:=qh (HN2.out (qH9 HE (Ya6 hlt (Qe8 hlt h92 (Kq9 s (k+1) (by omega))))));clear h92;go_wp2_with fail;go_ret2;exact⟨by rw [HD.out.1,HD.out.2];rfl,HB.out⟩
      . have e92:((s[k].toNat:Int) !=92)=true:=zx7 (c:=92) h92;by_cases hr:s[k].toNat<33\/126<s[k].toNat
        . have HD:=qh (HN2.out (qH9 HE (Ya6 hlt (HF.out.trans ((if_neg h92).trans (if_pos hr))))));have hr2:(s[k].toNat:Int)<33\/(33<=(s[k].toNat:Int)/\126<(s[k].toNat:Int)):=(by omega);clear h92 hr;rcases hr2 with hr2|hr2
          all_goals go_wp2_with fail
          all_goals go_ret2
          all_goals exact⟨by rw [HD.out.1,HD.out.2];rfl,HB.out⟩
        . have HD:=qh (YG0 hlt (by omega) (HF.out.trans ((if_neg h92).trans (if_neg hr))));have hr2:33<=(s[k].toNat:Int)/\(s[k].toNat:Int)<=126:=(by omega);clear h92 hr;go_wp2_with fail;go_roundw
          case rel=>exact⟨k+1,A++ [s[k]],by omega,by rw [List.length_append];simp;omega,by go_num,kg2 (qE6 A s k hlt),QL4 HE HD.out,HB.out⟩
          case measure=>simp [intOf];omega
    . by_cases h0:s.data.toList= []
      focus
       have HD:=qh (H0.out h0);have hz:s.size=0:=(by rw [<-qX6,h0];rfl);have ez:((s.size:Int)==0)=true:=beq_iff_eq.2 (by omega)
      rotate_left
      focus
       have HD:=qh (HS.out A h0 (yI6 HE (by omega)));have hz:¬s.size=0:=(by intro h;apply h0;apply List.eq_nil_of_length_eq_zero;rw [qX6];exact h);have ez:((s.size:Int)==0)=false:=beq_eq_false_iff_ne.2 (by omega)
      all_goals
       clear h0 hz
       go_wp2
       go_ret2;exact⟨by rw [HD.out.1,HD.out.2];rfl,HB.out⟩
end Go.Proofs.YtngepacmgabmaaaGreatDoor
