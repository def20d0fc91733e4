/- Walk: wickref.ReadRules. -/
import Derived.Test.YtngepacmgabmaaaGreatDoorGas
import Derived.Test.YtngepacmgabmaaaGreatDoorGaw
namespace Go.Proofs.YtngepacmgabmaaaGreatDoor
open Go.RowKit
set_option linter.unusedVariables false
set_option linter.unusedSimpArgs false
theorem ixM (c:UInt8):∀ l:List UInt8,Lib.indexByte l c= -1->c∉l
 | [],_,h=>by cases h
 |b::l,h,hm=>by
  unfold Lib.indexByte at h;by_cases e:b=c
  . rw [if_pos (by rw [beq_iff_eq];exact e)] at h;cases h
  . rw [if_neg (by rw [beq_iff_eq];exact e)] at h;rcases List.mem_cons.1 hm with h1|h1
    . exact e h1.symm
    . have ih:=λ k=>ixM c l k h1
      by_cases e2:Lib.indexByte l c= -1
      . exact ih e2
      . have:=Lib.indexByte_ge l c;split at h
        . rename_i h3;rw [beq_iff_eq] at h3;exact e2 h3
        . omega
theorem X67:∀ (n:Nat) (s:ByteArray),s.size<=n->∀ X T,pcs s nlB=X++ [T]->(10:UInt8)∉T.data.toList:=by
 intro n
 induction n with
 |zero=>
  intro s hs X T h;rcases Lib.indexB_cases s nlB with h1|⟨i,h1,hr⟩
  . rw [xR1 h1] at h;cases X with
    |nil=>
     cases h;exact ixM 10 _ (by rw [<-Lib.index_one];exact h1)
    |cons x X=>cases X<;>cases h
  . have e:nlB.size=1:=rfl;omega
 |succ n ih=>
  intro s hs X T h;rcases Lib.indexB_cases s nlB with h1|⟨i,h1,hr⟩
  . rw [xR1 h1] at h;cases X with
    |nil=>
     cases h;exact ixM 10 _ (by rw [<-Lib.index_one];exact h1)
    |cons x X=>cases X<;>cases h
  . have e:nlB.size=1:=rfl;have e2:(s.extract (i+nlB.size) s.size).size=s.size-(i+nlB.size):=(by rw [ByteArray.size_extract];omega);rw [j06 (by decide) h1] at h;cases X with
    |nil=>
     have:=Qw2 (s.extract (i+nlB.size) s.size) nlB (by decide);injection h with _ h;rw [h] at this;cases this
    |cons x X=>
     injection h with _ h;exact ih _ (by omega) X T h
section
variable {X:List ByteArray} {T:ByteArray}
theorem Y88:(jH9 X T).length=X.length+(if T.size=0 then 0 else 1):=by
 unfold jH9;split
 . rw [List.length_map];rfl
 . rw [List.length_append,List.length_map];rfl
theorem yy7 {k:Nat} (h:k<X.length) (h2:k<(jH9 X T).length):(jH9 X T)[k]=Yb5 X[k]:=by
 have e:(jH9 X T)[k]? =some (Yb5 X[k]):=by
  unfold jH9;split
  . rw [List.getElem?_map,List.getElem?_eq_getElem h];rfl
  . rw [List.getElem?_append_left (by rw [List.length_map];exact h),List.getElem?_map,List.getElem?_eq_getElem h];rfl
 rw [List.getElem?_eq_getElem h2] at e;exact Option.some.inj e
theorem Qz2 (h:¬T.size=0) (h2:X.length<(jH9 X T).length):(jH9 X T)[X.length]=T:=by
 have e:(jH9 X T)[X.length]? =some T:=by
  unfold jH9;rw [if_neg h,List.getElem?_append_right (by rw [List.length_map];exact Nat.le_refl _),List.length_map,Nat.sub_self];rfl
 rw [List.getElem?_eq_getElem h2] at e;exact Option.some.inj e
end
theorem j23 (x:ByteArray):(Yb5 x).size=x.size+1:=by
 unfold Yb5;rw [ByteArray.size_append];rfl
theorem X98 (x:ByteArray):(Yb5 x).extract 0 x.size=x:=by
 apply zH9;rw [Yz8];unfold Yb5;rw [ByteArray.data_append,Array.toList_append,List.drop_zero,List.take_append_of_le_length (by rw [qX6];omega)];exact List.take_of_length_le (by rw [qX6];omega)
theorem XZ3 (x:ByteArray) (h:x.size<(Yb5 x).size):(Yb5 x)[x.size]=10:=by
 have e:(Yb5 x).data.toList=x.data.toList++ [10]:=by unfold Yb5;rw [ByteArray.data_append,Array.toList_append];rfl
 have h2:(Yb5 x).data.toList[x.size]? =some 10:=by
  rw [e,List.getElem?_append_right (by rw [qX6];exact Nat.le_refl _),qX6,Nat.sub_self];rfl
 rw [List.getElem?_eq_getElem (by rw [qX6];exact h)] at h2;exact Option.some.inj h2
theorem jS3 {T:ByteArray} (h:(10:UInt8)∉T.data.toList) (k:Nat) (hk:k<T.size):¬T[k]=10:=λ e=>h (by
 have e2:T.data.toList[k]'(by rw [qX6];exact hk)=10:=by rw [<-e];rfl
 rw [<-e2];exact List.getElem_mem _)
section
variable (s:ByteArray) (w:World)
set_option maxRecDepth 100000 in
set_option maxHeartbeats 16000000 in
theorem zr3 (hs:s.size<=1048576) (hT:TW w):
 Calls Tryz.prog 6 #[.string s] w (KN4 s w):=by
 have HT:=qh λ w' (hb:Below w.heap.size w w')=>hT.below hb
 have hst:=P2.start w;unfold KN4;obtain⟨⟨EL,EE⟩,hE⟩:∃ E,E=txE s:=⟨_,rfl⟩;rw [<-hE];have HE:=qh hE;clear hE hT;dsimp only;by_cases h8:8192<s.size
 . have HF:Hid (EL=0/\EE=2):=qh (by have h:=HE.out;unfold txE at h;rw [if_pos h8] at h;cases h;exact⟨rfl,rfl⟩);have k1:(8192:Int)<(s.size:Int):=(by omega);go_enter Tryz.func6,Tryz.ntmps6;go_upto_region 1 with fail;obtain⟨W0,hW0⟩:∃ W0,w.alloc (.cells #[.int .i64 0,.int .i64 0,.slice none 0 0] 24)=W0:=⟨_,rfl⟩;have hz:Blk W0 w.heap.size 24 #[.int .i64 0,.int .i64 0,.slice none 0 0]:=(by rw [<-hW0];exact Blk.new _ _ _);have hb0:Below w.heap.size w W0:=(by rw [<-hW0];exact(Below.refl _ _).alloc (Nat.le_refl _) _);rw [hW0];clear hW0 hst HT;obtain⟨r0,r1,r2⟩:=zq5 hz;have f0:=hz.frozen 0;have f1:=hz.frozen 1;have f2:=hz.frozen 2;obtain⟨wz,hwz⟩:∃ wz,wz=ql7 W0 w.heap.size 0 0 (.slice none 0 0):=⟨_,rfl⟩;obtain⟨hzz,hzb⟩:=yj6 hz hb0 0 0 (.slice none 0 0);rw [<-hwz] at hzz hzb;unfold ql7 at hwz;have HZ:=qh hzz;have HZB:=qh hzb;have HWZ:=qh hwz;clear hzz hzb hwz;go_wp2_with fail;rw [<-HWZ.out];obtain⟨z0,z1,z2⟩:=zq5 HZ.out;refine bodyPost_ret (v:= .tuple #[.agg #[.int .i64 0,.int .i64 0,.slice none 0 0],.int .i64 EL,.int .i64 EE]) (by rw [HF.out.1,HF.out.2];simp [results,Tryz.results6,go_sem,z0,z1,z2]) rfl (RsR.bad HF.out.2 (by decide) HZB.out)
 . have k1:¬(8192:Int)<(s.size:Int):=(by omega);have hne:pcs s nlB≠ []:=λ e=>by have:=Qw2 s nlB (by decide);rw [e] at this;cases this
   obtain⟨X0,T,hXT⟩:∃ X0 T,pcs s nlB=X0++ [T]:=⟨_,_,(List.dropLast_concat_getLast hne).symm⟩;have HXT:=qh hXT;have hX0n:X0.length<=s.size:=(by have:=jy8 (s:=s) (t:=nlB) (by decide);rw [hXT,List.length_append,List.length_singleton] at this;omega);have hps:=zN9 nlB (by decide) s.size s (Nat.le_refl _);rw [hXT] at hps;have HXS:Hid (∀ k (hk:k<X0.length),X0[k].size<=s.size):=qh λ k hk=>hps _ (List.mem_append_left _ (List.getElem_mem hk))
   have hTs:T.size<=s.size:=hps T (by simp);have HTE:=qh (X67 s.size s (Nat.le_refl _) X0 T hXT);have CL:=qh λ w'=>zG4 s T X0 w' hs hXT
   have HE2:Hid ((EL,EE)=if ¬(lsE 0 (X0++ [T])).2=0 then lsE 0 (X0++ [T]) else (0,QR3 YX5 (rnN (wAt (qx4 ((X0++ [T]).getD 0 ByteArray.empty)) 1)) (rnN (wAt (qx4 ((X0++ [T]).getD 0 ByteArray.empty)) 2)) ((X0.drop 1).map λ x=>jD0 (qx4 x)))):=qh (by
    have h:=HE.out;unfold txE at h;rw [if_neg h8,hXT,List.dropLast_concat] at h;exact h)
   obtain⟨LL,hLL⟩:∃ LL,LL=jH9 X0 T:=⟨_,rfl⟩;rw [<-hLL] at CL;have hLn:LL.length=X0.length+(if T.size=0 then 0 else 1):=(by rw [hLL,Y88]);have HLL:=qh hLL;clear HE hne hXT hps hLL;obtain⟨nL,hnL⟩:∃ nL,nL=LL.length:=⟨_,rfl⟩;rw [<-hnL] at CL hLn;have HNL:=qh hnL;have HLn:=qh hLn;clear hnL hLn;go_enter Tryz.func6,Tryz.ntmps6;go_upto_region 4 with fail;obtain⟨W0,hW0⟩:∃ W0,((w.alloc (.cells #[.int .i64 0,.int .i64 0,.slice none 0 0] 24)).alloc (.cells #[.int .i64 0,.int .i64 0,.slice none 0 0] 24))=W0:=⟨_,rfl⟩;rw [hW0] at hst;rw [hW0];have HV0:=qh hst;clear hW0 hst k1;go_wp2_with fail;refine(CL.out _).mono ?_;rintro e w1 ⟨AL,cL,rfl,hoL,b1⟩;have HV1:=qh (HV0.out.kept b1);have HO1:Hid (OS w1 (w.heap.size+2) (.slice AL nL cL) LL):=qh (jJ8 hoL (by have:=HV0.out.lt;omega));clear hoL b1 HV0 CL;by_cases hz0:nL=0
   . subst hz0
     have HF:Hid (EL=1/\EE=3):=qh (by
      have h:=HE2.out;have h1:X0= []:=List.eq_nil_of_length_eq_zero (by have:=HLn.out;omega);rw [h1] at h;have e:lsE 0 ([]++ [T])=(((0:Nat):Int)+1,3):=if_pos (Or.inl rfl);rw [e,if_pos (show ¬(3:Int)=0 by decide)] at h;cases h;exact⟨rfl,rfl⟩)
     clear HE2 HT;obtain⟨r0,r1,r2⟩:=zq5 HV1.out.z;have f0:=HV1.out.z.frozen 0;have f1:=HV1.out.z.frozen 1;have f2:=HV1.out.z.frozen 2;obtain⟨wz,hwz⟩:∃ wz,wz=ql7 w1 w.heap.size 0 0 (.slice none 0 0):=⟨_,rfl⟩;obtain⟨hzz,hzb⟩:=yj6 HV1.out.z HV1.out.be 0 0 (.slice none 0 0);rw [<-hwz] at hzz hzb;unfold ql7 at hwz;have HZ:=qh hzz;have HZB:=qh hzb;have HWZ:=qh hwz;clear hzz hzb hwz;go_wp2_with fail;rw [<-HWZ.out];obtain⟨z0,z1,z2⟩:=zq5 HZ.out;refine bodyPost_ret (v:= .tuple #[.agg #[.int .i64 0,.int .i64 0,.slice none 0 0],.int .i64 EL,.int .i64 EE]) (by rw [HF.out.1,HF.out.2];simp [results,Tryz.results6,go_sem,z0,z1,z2]) rfl (RsR.bad HF.out.2 (by decide) HZB.out)
   . have hat:∃ g,AL=some ⟨g,0,none⟩/\∀ k (hk:k<LL.length),w1.cell? ⟨g,k,none⟩=some (.string LL[k]):=by
      have h:=HO1.out;rw [HNL.out] at h;obtain⟨g,e,_,_,_,hc⟩:=OS.at_ h (by rw [<-HNL.out];omega);exact⟨g,e,hc⟩
     obtain⟨g,rfl,_⟩:=hat;have q0:((nL:Int)==0)=false:=(by rw [beq_eq_false_iff_ne];omega);have q0':¬(nL:Int)=0:=(by omega);have hnL9:nL<=1048578:=(by have hLn:=HLn.out;split at hLn<;>omega);go_wp2_with fail;go_loopw [7] (λ u wr=>∃ (k:Nat) (A:Option Addr) (c:Nat) (most st:Int) (l:List Ru),u= .int .i64 (k:Int)/\k<=nL/\k<=X0.length/\Hid (lsE 0 (X0++ [T])=lsE k (X0.drop k++ [T]))/\Hid (P2 w wr most st (.slice A l.length c))/\Hid (Rls w wr A c ((X0.take k).drop 1) l)/\Hid (k≠0->most=rnN (wAt (qx4 (X0.getD 0 ByteArray.empty)) 1)/\st=rnN (wAt (qx4 (X0.getD 0 ByteArray.empty)) 2))/\l.length<=k/\Hid (OS wr (w.heap.size+2) (.slice (some ⟨g,0,none⟩) nL cL) LL/\((Value.slice (some ⟨g,0,none⟩) nL cL).ownBlock=none\/(Value.slice (some ⟨g,0,none⟩) nL cL).ownBlock≠(Value.slice A l.length c).ownBlock))) (λ u _=>nL-(intOf u).toNat)
     case atStart=>exact⟨0,none,0,0,0,[],rfl,Nat.zero_le _,Nat.zero_le _,qh rfl,HV1,qh (Rls.start w w1),qh λ h=>absurd rfl h,Nat.le_refl _,qh ⟨HO1.out,.inr (by simp [Value.ownBlock])⟩⟩
     case round=>
      obtain⟨k,A,c,most,st,l,rfl,hk,hkX,HER,HV,HL,HH,hlk,HO⟩:=hrel;clear HO1 HV1;have k0i:(0:Int)<=(k:Int):=(by omega);by_cases hkn:k<nL
      . have k1:(k:Int)<(nL:Int):=(by omega);have kw:IntKind.i64.wrap ((k:Int)+1)=(k:Int)+1:=IntWalk.i64_in _ (by omega);have hkL:k<LL.length:=by rw [<-HNL.out];exact hkn
        have HAT:Hid (∀ w',OS w' (w.heap.size+2) (.slice (some ⟨g,0,none⟩) nL cL) LL->w'.cell? ⟨g,k,none⟩=some (.string LL[k])):=qh λ w' h=>by
         rw [HNL.out] at h;obtain⟨g',e,_,_,_,hc⟩:=OS.at_ h (by omega);cases e;exact hc k hkL
        by_cases hkx:k<X0.length
        . obtain⟨x,hx⟩:∃ x,x=X0[k]:=⟨_,rfl⟩;have hxs:x.size<=s.size:=(by rw [hx];exact HXS.out k hkx);obtain⟨Zl,hZl⟩:∃ Zl,Zl=Yb5 x:=⟨_,rfl⟩;have hZs:Zl.size=x.size+1:=(by rw [hZl,j23]);have HZX:Hid (Zl.extract 0 x.size=x):=qh (by rw [hZl,X98]);have hnZ:x.size<Zl.size:=(by omega);have e10:((Zl[x.size].toNat:Int)==10)=true:=zf5 (c:=10) (by subst hZl;exact XZ3 x hnZ);have e10':(Zl[x.size].toNat:Int)=10:=by rw [beq_iff_eq] at e10;exact e10
          have HAT2:Hid (∀ w',OS w' (w.heap.size+2) (.slice (some ⟨g,0,none⟩) nL cL) LL->w'.cell? ⟨g,k,none⟩=some (.string Zl)):=qh λ w' h=>by
           have h2:=HAT.out w' h
           have e2:LL[k]=Zl:=by
            rw [hZl,hx];have h3:=HLL.out;subst h3;exact yy7 hkx hkL
           rw [e2] at h2;exact h2
          have y0:=HAT2.out wr HO.out.1;have hnw:IntKind.i64.wrap ((Zl.size:Int)-1)=(x.size:Int):=(by rw [hZs];exact(IntWalk.i64_in _ (by omega)).trans (by omega));have i0:(0:Int)<=(x.size:Int):=(by omega);have i1:(x.size:Int)<(Zl.size:Int):=(by omega);have i2:(x.size:Int)<=(Zl.size:Int):=(by omega);have hdr:X0.drop k=x::X0.drop (k+1):=(by rw [List.drop_eq_getElem_cons hkx,hx]);have htk:X0.take (k+1)=X0.take k++ [x]:=by rw [List.take_succ_eq_append_getElem hkx,hx]
          have hd2:∃ y r,X0.drop (k+1)++ [T]=y::r:=by
           cases h:X0.drop (k+1) with
           |nil=>exact⟨_,_,rfl⟩
           |cons y r=>exact⟨_,_,rfl⟩
          obtain⟨yy,rr,hyr⟩:=hd2;have hER:lsE 0 (X0++ [T])=lsE k (x::yy::rr):=(by rw [HER.out,hdr,List.cons_append,hyr]);have HWM:Hid ((∀ q∈qx4 x,q.size<=1048576)/\(qx4 x).length<=1048577):=qh ⟨λ q hq=>Nat.le_trans (zN9 ⟨#[32]⟩ (by decide) _ _ (Nat.le_refl _) q hq) (by omega),Nat.le_trans (jy8 (by decide)) (by omega)⟩
          have HWA:Hid (∀ j,(wAt (qx4 x) j).size<=1048576):=qh λ j=>by
           unfold wAt List.getD;cases h:(qx4 x)[j]? with
           |none=>exact Nat.zero_le _
           |some q=>exact HWM.out.1 q (List.mem_of_getElem? h)
          have C2:=qh λ w'=>Z13 x ⟨#[32]⟩ w' (by omega) (by decide) (by decide)
          have hwp:0<(qx4 x).length:=Qw2 _ _ (by decide);rw [<-HZX.out] at C2;have HXk:=qh hx;have hZ1:x.size+1<=Zl.size:=(by omega);have hZ2:Zl.size<=x.size+1:=(by omega);clear hZl hdr HAT HER hx hZs;go_wp2_with fail;refine(C2.out _).mono ?_;rintro e w3 ⟨v,rfl,ho3,b3⟩;rw [HZX.out] at ho3;obtain⟨A3,c3,rfl⟩:=OS.form ho3;obtain⟨g3,rfl,hg3,hg3l,_,_⟩:=OS.at_ ho3 hwp;have HV3:=qh (HV.out.kept b3);have HL3:=qh (HL.out.kept b3);have HO3:Hid (OS w3 (w.heap.size+2) (.slice (some ⟨g,0,none⟩) nL cL) LL):=qh (ji4 HO.out.1 b3);have HW3:Hid (OS w3 (w.heap.size+2) (.slice (some ⟨g3,0,none⟩) (pcs x ⟨#[32]⟩).length c3) (qx4 x)):=qh (jJ8 ho3 (by have:=HV.out.lt;omega));have HOF:=qh HO.out.2;have hz2:w.heap.size+1<g3:=(by have:=HV.out.lt;omega);have HG3:=qh λ gg hg=>Nat.lt_of_lt_of_le (HL3.out.lt gg hg).2 (Nat.le_add_right _ 2)
          clear ho3 b3 HV HL C2 y0 HO;by_cases k0:k=0
          . subst k0;obtain⟨n1,hn1⟩:∃ n,n=rnN (wAt (qx4 x) 1):=⟨_,rfl⟩;obtain⟨n2,hn2⟩:∃ n,n=rnN (wAt (qx4 x) 2):=⟨_,rfl⟩;have CN1:=qh λ w'=>(z06 (wAt (qx4 x) 1) w' (by have:=HWA.out 1;unfold maxLen;omega)).mono λ _ _ h=>And.intro h.1 h.2.symm
            have CN2:=qh λ w'=>(z06 (wAt (qx4 x) 2) w' (by have:=HWA.out 2;unfold maxLen;omega)).mono λ _ _ h=>And.intro h.1 h.2.symm
            rw [<-hn1] at CN1;rw [<-hn2] at CN2;obtain⟨hd,hhd⟩:∃ hd,hd=hdOk (qx4 x):=⟨_,rfl⟩;have HHD:Hid (hd=(decide ((qx4 x).length=3)&&(decide (wAt (qx4 x) 0=zy7)&&(decide (0<=n1)&&decide (0<=n2))))):=qh (by rw [hn1,hn2];exact hhd)
            have HHF:Hid (hd=false->EL=1/\EE=3):=qh λ hf=>by
             have h:=HE2.out;rw [hER] at h;have e:lnE 0 x=3:=(if_pos rfl).trans (if_neg (by rw [<-hhd,hf];decide));rw [Q13 (by rw [e];decide),e,if_pos (show ¬(3:Int)=0 by decide)] at h;cases h;exact⟨rfl,rfl⟩
            have HHT:Hid (hd=true->lsE 0 (X0++ [T])=lsE 1 (X0.drop 1++ [T])):=qh λ hf=>by
             have e:lnE 0 x=0:=(if_pos rfl).trans (if_pos (by rw [<-hhd,hf]));rw [hER,Zg2 e,<-hyr]
            have hX00:X0.getD 0 ByteArray.empty=x:=(by unfold List.getD;rw [List.getElem?_eq_getElem hkx,HXk.out];rfl);have HNN:Hid ((0+1:Nat)≠0->n1=rnN (wAt (qx4 (X0.getD 0 ByteArray.empty)) 1)/\n2=rnN (wAt (qx4 (X0.getD 0 ByteArray.empty)) 2)):=qh λ _=>by rw [hX00];exact⟨hn1,hn2⟩
            have HTK:Hid ((X0.take (0+1)).drop 1=(X0.take 0).drop 1):=qh (by rw [htk];rfl)
            have HY:Hid (∀ w',OS w' (w.heap.size+2) (.slice (some ⟨g3,0,none⟩) (pcs x ⟨#[32]⟩).length c3) (qx4 x)->(qx4 x).length=3->w'.cell? ⟨g3,0,none⟩=some (.string (wAt (qx4 x) 0))/\w'.cell? ⟨g3,1,none⟩=some (.string (wAt (qx4 x) 1))/\w'.cell? ⟨g3,2,none⟩=some (.string (wAt (qx4 x) 2))):=qh λ w' ho h3=>by
             obtain⟨g,e,_,_,hc,hcell⟩:=OS.at_ (l:=qx4 x) ho (by omega);cases e
             have Y:∀ k,k<(qx4 x).length->w'.cell? ⟨g3,k,none⟩=some (.string (wAt (qx4 x) k)):=λ k hk=>by
              rw [hcell k hk];unfold wAt List.getD;rw [List.getElem?_eq_getElem hk];rfl
             exact⟨Y 0 (by omega),Y 1 (by omega),Y 2 (by omega)⟩
            obtain⟨N,hN⟩:∃ N,N=(pcs x ⟨#[32]⟩).length:=⟨_,rfl⟩;rw [<-hN] at HW3 HY⊢;have HN3:Hid (N=(qx4 x).length):=qh hN;clear hN hhd hn1 hn2 HE2 HH hER hX00 htk hyr HXk HG3;go_upto_region 15 with fail;go_cut [72] from 50 to 72 (λ u wx=>u= .bool (!hd)/\w3=wx)
            case first=>
             clear HHF HHT HNN HTK HV3 HL3 HO3 HOF;by_cases h3:N=3
             . subst h3;obtain⟨Y0,Y1,Y2⟩:=HY.out w3 HW3.out HN3.out.symm;by_cases hsc:wAt (qx4 x) 0=zy7
               . have qs:((wAt (qx4 x) 0).toList== [115,99,111,114,101])=true:=(by rw [Z49 (t:=zy7) (L:= [115,99,111,114,101]) rfl,hsc];exact decide_eq_true rfl);by_cases p1:n1<0
                 . have hb:hd=false:=(by rw [HHD.out,decide_eq_false (show ¬0<=n1 by omega)];simp);subst hb;clear HHD hsc;go_wp2_with fail;refine(CN1.out _).mono ?_;rintro e w' ⟨rfl,rfl⟩;go_wp2_with fail;go_meet;exact⟨rfl,rfl⟩
                 . by_cases p2:n2<0
                   focus
                    have hb:hd=false:=by rw [HHD.out,decide_eq_false (show ¬0<=n2 by omega)];simp
                   rotate_left
                   focus
                    have hb:hd=true:=by rw [HHD.out,decide_eq_true HN3.out.symm,decide_eq_true hsc,decide_eq_true (show 0<=n1 by omega),decide_eq_true (show 0<=n2 by omega)];rfl
                   rotate_left
                   all_goals
                    subst hb;clear HHD hsc;go_wp2_with fail;refine(CN1.out _).mono ?_;rintro e w' ⟨rfl,rfl⟩;go_wp2_with fail;refine(CN2.out _).mono ?_;rintro e w' ⟨rfl,rfl⟩;go_wp2_with fail;go_meet
                   . exact⟨rfl,rfl⟩
                   . exact⟨by rw [decide_eq_false (show ¬n1<0 by omega),decide_eq_false (show ¬n2<0 by omega)];rfl,rfl⟩
               . have qs:((wAt (qx4 x) 0).toList== [115,99,111,114,101])=false:=(by rw [Z49 (t:=zy7) (L:= [115,99,111,114,101]) rfl];exact decide_eq_false hsc);have hb:hd=false:=(by rw [HHD.out,decide_eq_false hsc];simp);subst hb;clear HHD hsc;go_wp2_with fail;go_meet;exact⟨rfl,rfl⟩
             . have q3:((N:Int)==3)=false:=(by rw [beq_eq_false_iff_ne];intro e;exact h3 (Int.ofNat.inj e));have q4:¬(N:Int)=3:=λ e=>h3 (Int.ofNat.inj e)
               have hb:hd=false:=(by rw [HHD.out,<-HN3.out,decide_eq_false h3];rfl);subst hb;clear HHD;go_wp2_with fail;go_meet;exact⟨rfl,rfl⟩
            case rest=>
             obtain⟨rfl,rfl⟩:=hcut;cases hd with
             |false=>
              have HF:Hid (EL=1/\EE=3):=qh (HHF.out rfl);clear HHF HHT HNN HTK HHD HY HO3 HL3 HW3 HOF CN1 CN2 HT;obtain⟨r0,r1,r2⟩:=zq5 HV3.out.z;have f0:=HV3.out.z.frozen 0;have f1:=HV3.out.z.frozen 1;have f2:=HV3.out.z.frozen 2;obtain⟨wz,hwz⟩:∃ wz,wz=ql7 w3 w.heap.size 0 0 (.slice none 0 0):=⟨_,rfl⟩;obtain⟨hzz,hzb⟩:=yj6 HV3.out.z HV3.out.be 0 0 (.slice none 0 0);rw [<-hwz] at hzz hzb;unfold ql7 at hwz;have HZ:=qh hzz;have HZB:=qh hzb;have HWZ:=qh hwz;clear hzz hzb hwz;go_wp2_with fail;rw [<-HWZ.out];obtain⟨z0,z1,z2⟩:=zq5 HZ.out;refine bodyPost_ret (v:= .tuple #[.agg #[.int .i64 0,.int .i64 0,.slice none 0 0],.int .i64 EL,.int .i64 EE]) (by rw [HF.out.1,HF.out.2];simp [results,Tryz.results6,go_sem,z0,z1,z2]) rfl (RsR.bad HF.out.2 (by decide) HZB.out)
             |true=>
              have h3:(qx4 x).length=3:=by
               have h:=HHD.out;cases h3:decide ((qx4 x).length=3) with
               |true=>exact of_decide_eq_true h3
               |false=>rw [h3] at h;cases h
              have HP2:=qh (HHT.out rfl);have hN3:N=3:=HN3.out.trans h3;subst hN3;clear HHF HHT HHD HN3;obtain⟨V1,hV1⟩:∃ V1,w3.drew=V1:=⟨_,rfl⟩;have HU1:Hid (P2 w V1 most st (.slice A l.length c)):=qh (by rw [<-hV1];exact HV3.out.drewN 1);have HX1:Hid (Rls w V1 A c ((X0.take 0).drop 1) l):=qh (by rw [<-hV1];exact HL3.out.kept (below_drewN (Below.refl _ _) 1));have hO1:OS V1 (w.heap.size+2) (.slice (some ⟨g,0,none⟩) nL cL) LL:=(by rw [<-hV1];exact HO3.out);have hd1:OS V1 (w.heap.size+2) (.slice (some ⟨g3,0,none⟩) 3 c3) (qx4 x):=(by rw [<-hV1];exact HW3.out);have hd0:=hd1;rw [<-hV1] at hd0;obtain⟨Va,hVa⟩:∃ Va,V1.setCell ⟨w.heap.size+1,0,none⟩ (.int .i64 n1)=Va:=⟨_,rfl⟩;have HUa:Hid (P2 w Va n1 st (.slice A l.length c)):=qh (by rw [<-hVa];exact HU1.out.set0 _);have HXa:Hid (Rls w Va A c ((X0.take 0).drop 1) l):=qh (by rw [<-hVa];exact HX1.out.set (Nat.lt_succ_self _) _);have hOa:OS Va (w.heap.size+2) (.slice (some ⟨g,0,none⟩) nL cL) LL:=(by rw [<-hVa];exact K14 hO1 (Nat.lt_succ_self _) _);have hda:OS Va (w.heap.size+2) (.slice (some ⟨g3,0,none⟩) 3 c3) (qx4 x):=(by rw [<-hVa];exact K14 hd1 (Nat.lt_succ_self _) _);obtain⟨Vb,hVb⟩:∃ Vb,Va.setCell ⟨w.heap.size+1,1,none⟩ (.int .i64 n2)=Vb:=⟨_,rfl⟩;have HUb:Hid (P2 w Vb n1 n2 (.slice A l.length c)):=qh (by rw [<-hVb];exact HUa.out.set1 _);have HXb:Hid (Rls w Vb A c ((X0.take (0+1)).drop 1) l):=qh (by rw [HTK.out,<-hVb];exact HXa.out.set (Nat.lt_succ_self _) _);have HOb:Hid (OS Vb (w.heap.size+2) (.slice (some ⟨g,0,none⟩) nL cL) LL):=qh (by rw [<-hVb];exact K14 hOa (Nat.lt_succ_self _) _);have hdb:OS Vb (w.heap.size+2) (.slice (some ⟨g3,0,none⟩) 3 c3) (qx4 x):=(by rw [<-hVb];exact K14 hda (Nat.lt_succ_self _) _);have HS:Hid (∀ w',OS w' (w.heap.size+2) (.slice (some ⟨g3,0,none⟩) 3 c3) (qx4 x)->w'.cell? ⟨g3,1,none⟩=some (.string (wAt (qx4 x) 1))/\w'.cell? ⟨g3,2,none⟩=some (.string (wAt (qx4 x) 2))):=qh λ w' h=>(HY.out w' h h3).2
              clear HV3 HL3 HO3 HW3 HY HX1 HXa hO1 hOa h3 HTK;go_upto_region 17 with fail;go_cut [] from 74 to 83 (λ wx=>Hid (P2 w wx n1 n2 (.slice A l.length c))/\Hid (Rls w wx A c ((X0.take (0+1)).drop 1) l)/\Hid (OS wx (w.heap.size+2) (.slice (some ⟨g,0,none⟩) nL cL) LL))
              case first=>
               obtain⟨c0,c1,_⟩:=zq5 HU1.out.b;obtain⟨_,d1,_⟩:=zq5 HUa.out.b;have e0:=HU1.out.b.frozen 0;have e1:=HUa.out.b.frozen 1;clear HP2 HNN HOF
               go_region_held3 (λ w'=>w'.cell? ⟨g3,1,none⟩=some (.string (wAt (qx4 x) 1))/\w'.cell? ⟨g3,2,none⟩=some (.string (wAt (qx4 x) 2))) (exact HS.out _ (by assumption))
                (first
                 |(go_at_call 18;(with_reducible refine(CN1.out _).mono ?_);rintro e w' ⟨rfl,rfl⟩)
                 |(go_at_call 18;(with_reducible refine(CN2.out _).mono ?_);rintro e w' ⟨rfl,rfl⟩)
                 |fail)
               all_goals
                go_wp2_with fail;go_meet;exact⟨HUb,HXb,HOb⟩
              case rest=>
               obtain⟨HVR,HLR,HOR⟩:=hcut;clear HU1 HUa HUb HXb HOb hd0 hd1 hda hdb HS CN1 CN2 hV1 hVa hVb;go_wp2_with fail;go_roundw
               case rel=>exact⟨0+1,A,c,n1,n2,l,rfl,by omega,hkx,HP2,HVR,HLR,HNN,by omega,qh ⟨HOR.out,HOF.out⟩⟩
               case measure=>(simp [intOf];try omega)
          . have q1:((k:Int)==0)=false:=(by rw [beq_eq_false_iff_ne];omega);have q3:¬(k:Int)=0:=(by omega);have HR:=qh (Jo5 (qx4 x) g3 c3 (w.heap.size+2) w3 HW3.out hg3l HWM.out.1 HWM.out.2 (HT.out w3 HV3.out.be));unfold KB2 at HR;clear HW3;go_wp2_with fail;refine HR.out.mono ?_;rintro e w4 ⟨ru,rfl,hr,b4⟩;have HV4:=qh (HV3.out.kept b4);have HL4:=qh (HL3.out.kept b4);have HO4:Hid (OS w4 (w.heap.size+2) (.slice (some ⟨g,0,none⟩) nL cL) LL):=qh (ji4 HO3.out b4);have HRU:=qh hr;have hz4:=b4.size;have hz3:=HV3.out.be.size;clear hr b4 HR HV3 HL3 HO3;by_cases he:rdE (qx4 x)=0
            . have HER2:Hid (lsE 0 (X0++ [T])=lsE (k+1) (X0.drop (k+1)++ [T])):=qh (by rw [hER,hyr];exact Zg2 (by show (if k=0 then _ else _)=_;rw [if_neg k0];exact he));have HRX:=qh (HRU.out he);have eX:(X0.take (k+1)).drop 1=(X0.take k).drop 1++ [x]:=(by rw [htk];exact List.drop_append_of_le_length (by rw [List.length_take];omega));have HEX:=qh eX;clear HRU hER hyr htk eX HXk;go_upto_region 19 with fail;obtain⟨W5,hW5⟩:∃ W5,w4.alloc (.cells #[.int .i64 ru.id,.int .i64 ru.ph,.slice ru.VA ru.vs.length ru.vc,.slice ru.ZA ru.zs.length ru.zc,.bool ru.no,.int .i64 ru.op,.string ru.arg,.slice ru.XA ru.xs.length ru.xc,.bool ru.ch] 44)=W5:=⟨_,rfl⟩;have hb5:Below w4.heap.size w4 W5:=(by rw [<-hW5];exact(Below.refl _ _).alloc (Nat.le_refl _) _);have hk5:Blk W5 w4.heap.size 44 (Zn7 ru).toArray:=(by rw [<-hW5];exact Blk.new _ _ _);have HV5:=qh (HV4.out.kept hb5);have HL5:=qh (HL4.out.kept hb5);have HO5:Hid (OS W5 (w.heap.size+2) (.slice (some ⟨g,0,none⟩) nL cL) LL):=qh (ji4 HO4.out hb5);have HRO:=qh (HRX.out.2.kept hb5);obtain⟨t0,t1,t2,t3,t4,t5,t6,t7,t8⟩:=z19 hk5;obtain⟨_,_,y2⟩:=zq5 HV5.out.b;rw [hW5];clear hW5 hb5 hk5 HV4 HL4 HO4;have hz5:=HV5.out.lt;go_upto_region 21 with fail;go_wp2_with (first|(at_builtin;refine yh4 rfl (.tmp 96) (.tmp 98) rfl HL5.out.own rfl ru rfl (by omega) (by omega) ?_;intro A5 c5 w6 h6 g6;have HV6:=qh (HV5.out.grew g6 λ g hg=>(HL5.out.lt g hg).1);have u2:=(zq5 HV6.out.b).2.2;have fu:=HV6.out.b.frozen 2;obtain⟨W7,hW7⟩:∃ W7,w6.setCell ⟨w.heap.size+1,2,none⟩ (.slice A5 (l.length+1) c5)=W7:=⟨_,rfl⟩)|fail);have HL6:Hid (Rls w w6 A5 c5 ((X0.take k).drop 1++ [x]) (l++ [ru])):=qh (HL5.out.more HRX.out.1 (RuX.new HRO.out (by omega) HG3.out) (HRX.out.1.bnd HWA.out) h6 g6);have eL:(l++ [ru]).length=l.length+1:=(by simp);have HV7:Hid (P2 w W7 most st (.slice A5 (l++ [ru]).length c5)):=qh (by rw [<-hW7,eL];exact HV6.out.set2 _)
              have HL7:Hid (Rls w W7 A5 c5 ((X0.take (k+1)).drop 1) (l++ [ru])):=qh (by rw [<-hW7,HEX.out];exact HL6.out.set (Nat.lt_succ_self _) _)
              have HO7:Hid (OS W7 (w.heap.size+2) (.slice (some ⟨g,0,none⟩) nL cL) LL/\((Value.slice (some ⟨g,0,none⟩) nL cL).ownBlock=none\/(Value.slice (some ⟨g,0,none⟩) nL cL).ownBlock≠(Value.slice A5 (l++ [ru]).length c5).ownBlock)):=qh (by
               rw [<-hW7,eL];exact⟨K14 (World.ownsRow.kept HO5.out g6.grown HOF.out) (Nat.lt_succ_self _) _,xA4 g6 HO5.out HOF.out⟩)
              go_roundw
              case rel=>exact⟨k+1,A5,c5,most,st,l++ [ru],by go_num,by omega,hkx,HER2,HV7,HL7,qh λ _=>HH.out k0,by rw [eL];omega,HO7⟩
              case measure=>simp [intOf];omega
            . have HF:Hid (EL=(k:Int)+1/\EE=rdE (qx4 x)):=qh (by
               have h:=HE2.out;rw [hER] at h;have e:lnE k x=rdE (qx4 x):=if_neg k0;rw [Q13 (by rw [e];exact he),e,if_pos he] at h;cases h;exact⟨rfl,rfl⟩)
              have q4:(rdE (qx4 x)==0)=false:=(by rw [beq_eq_false_iff_ne];exact he);obtain⟨EX,hEX⟩:∃ EX,EX=rdE (qx4 x):=⟨_,rfl⟩;rw [<-hEX] at HF q4 he⊢;clear hEX HE2 hER hyr htk HG3 HOF HH;go_upto_region 19 with fail;obtain⟨W5,hW5⟩:∃ W5,w4.alloc (.cells #[.int .i64 ru.id,.int .i64 ru.ph,.slice ru.VA ru.vs.length ru.vc,.slice ru.ZA ru.zs.length ru.zc,.bool ru.no,.int .i64 ru.op,.string ru.arg,.slice ru.XA ru.xs.length ru.xc,.bool ru.ch] 44)=W5:=⟨_,rfl⟩;have HV5:Hid (P2 w W5 most st (.slice A l.length c)):=qh (by rw [<-hW5];exact HV4.out.kept ((Below.refl _ _).alloc (Nat.le_refl _) _));rw [hW5];clear hW5 HV4 HL4 HRU HO4;obtain⟨r0,r1,r2⟩:=zq5 HV5.out.z;have f0:=HV5.out.z.frozen 0;have f1:=HV5.out.z.frozen 1;have f2:=HV5.out.z.frozen 2;obtain⟨wz,hwz⟩:∃ wz,wz=ql7 W5 w.heap.size 0 0 (.slice none 0 0):=⟨_,rfl⟩;obtain⟨hzz,hzb⟩:=yj6 HV5.out.z HV5.out.be 0 0 (.slice none 0 0);rw [<-hwz] at hzz hzb;unfold ql7 at hwz;have HZ:=qh hzz;have HZB:=qh hzb;have HWZ:=qh hwz;clear hzz hzb hwz;go_wp2_with fail;rw [<-HWZ.out];obtain⟨z0,z1,z2⟩:=zq5 HZ.out;refine bodyPost_ret (v:= .tuple #[.agg #[.int .i64 0,.int .i64 0,.slice none 0 0],.int .i64 EL,.int .i64 EE]) (by rw [HF.out.1,HF.out.2];simp [results,Tryz.results6,go_sem,z0,z1,z2]) rfl (RsR.bad HF.out.2 he HZB.out)
        . have hLn:=HLn.out;have hk9:k=X0.length:=(by split at hLn<;>omega);subst hk9;have hT0:¬T.size=0:=λ h=>by rw [if_pos h] at hLn;omega
          have HF:Hid (EL=(X0.length:Int)+1/\EE=3):=qh (by
           have h:=HE2.out;rw [HER.out,List.drop_length] at h;have e:lsE X0.length ([]++ [T])=((X0.length:Int)+1,3):=if_pos (.inr (by omega));rw [e,if_pos (show ¬(3:Int)=0 by decide)] at h;cases h;exact⟨rfl,rfl⟩)
          have y0:wr.cell? ⟨g,X0.length,none⟩=some (.string T):=by
           have h:=HAT.out wr HO.out.1
           have e2:LL[X0.length]=T:=by
            have h2:=HLL.out;subst h2;exact Qz2 hT0 hkL
           rw [e2] at h;exact h
          obtain⟨n,hn⟩:∃ n,T.size=n+1:=⟨T.size-1,by omega⟩;have hnw:IntKind.i64.wrap ((T.size:Int)-1)=(n:Int):=(by rw [hn];exact(IntWalk.i64_in _ (by omega)).trans (by omega));have i0:(0:Int)<=(n:Int):=(by omega);have i1:(n:Int)<(T.size:Int):=(by omega);have hnT:n<T.size:=(by omega);have e10:((T[n].toNat:Int)==10)=false:=kd3 (c:=10) (jS3 HTE.out n hnT);have e10':¬(T[n].toNat:Int)=10:=(by rw [beq_eq_false_iff_ne] at e10;exact e10);clear HE2 HT HL HH HO HAT HER hT0 hn hkL hLn HLL HXS;obtain⟨r0,r1,r2⟩:=zq5 HV.out.z;have f0:=HV.out.z.frozen 0;have f1:=HV.out.z.frozen 1;have f2:=HV.out.z.frozen 2;obtain⟨wz,hwz⟩:∃ wz,wz=ql7 wr w.heap.size 0 0 (.slice none 0 0):=⟨_,rfl⟩;obtain⟨hzz,hzb⟩:=yj6 HV.out.z HV.out.be 0 0 (.slice none 0 0);rw [<-hwz] at hzz hzb;unfold ql7 at hwz;have HZ:=qh hzz;have HZB:=qh hzb;have HWZ:=qh hwz;clear hzz hzb hwz;go_wp2_with fail;rw [<-HWZ.out];obtain⟨z0,z1,z2⟩:=zq5 HZ.out;refine bodyPost_ret (v:= .tuple #[.agg #[.int .i64 0,.int .i64 0,.slice none 0 0],.int .i64 EL,.int .i64 EE]) (by rw [HF.out.1,HF.out.2];simp [results,Tryz.results6,go_sem,z0,z1,z2]) rfl (RsR.bad HF.out.2 (by decide) HZB.out)
      . have hLn:=HLn.out
        have hT0:T.size=0/\k=X0.length:=by
         by_cases h:T.size=0
         . rw [if_pos h] at hLn;exact⟨h,by omega⟩
         . rw [if_neg h] at hLn;omega
        clear hLn;obtain⟨hT0,hkX0⟩:=hT0;have k0:k≠0:=(by omega);have htk:X0.take k=X0:=by rw [hkX0,List.take_length]
        have hX:(X0++ [T]).getD 0 ByteArray.empty=X0.getD 0 ByteArray.empty:=by
         unfold List.getD;rw [List.getElem?_append_left (by omega)]
        have HRL:Hid (EE=0->most=rnN (wAt (qx4 ((pcs s nlB).getD 0 ByteArray.empty)) 1)/\st=rnN (wAt (qx4 ((pcs s nlB).getD 0 ByteArray.empty)) 2)/\IsRl ((pcs s nlB).dropLast.drop 1) l):=qh λ _=>by
         rw [HXT.out,hX,List.dropLast_concat];exact⟨(HH.out k0).1,(HH.out k0).2,by have:=HL.out.is;rw [htk] at this;exact this⟩
        have hEE:Hid (EL=0/\EE=QR3 YX5 most st l):=qh (by
         have h:=HE2.out;have e:lsE k ([]++ [T])=(0,0):=if_neg (by omega);have e3:X0.drop k= []:=(by rw [hkX0,List.drop_length]);have e4:(X0.drop 1).map (λ x=>jD0 (qx4 x))=l.map bare:=(by have:=HL.out.is;rw [htk] at this;exact this.symm);rw [HER.out,e3,e,if_neg (by decide),hX,<-(HH.out k0).1,<-(HH.out k0).2,e4,Yw2] at h;cases h;exact⟨rfl,rfl⟩)
        have CK:=qh (KR1 YX5 most st l A c wr.heap.size wr HL.out.row yx2);obtain⟨RK,hRK⟩:∃ RK,RK=QR3 YX5 most st l:=⟨_,rfl⟩;rw [<-hRK] at CK hEE;clear hRK HE2 hX htk hT0 hkX0 HH HER HO HT HLL;obtain⟨y0,y1,y2⟩:=zq5 HV.out.b;go_upto_region 22 with fail;go_wp2_with fail;refine CK.out.mono ?_;rintro e w2 ⟨rfl,b2⟩;have HV2:=qh (HV.out.kept b2);have HL2:=qh (HL.out.kept b2);clear y0 y1 y2 b2 HV HL CK;by_cases hr:RK=0
        . have q4:(RK==0)=true:=(by rw [hr];rfl);have HF:Hid (EL=0/\EE=0):=qh ⟨hEE.out.1,hEE.out.2.trans hr⟩;obtain⟨r0,r1,r2⟩:=zq5 HV2.out.z;obtain⟨y0,y1,y2⟩:=zq5 HV2.out.b;have f0:=HV2.out.z.frozen 0;have f1:=HV2.out.z.frozen 1;have f2:=HV2.out.z.frozen 2;obtain⟨wz,hwz⟩:∃ wz,wz=ql7 w2 w.heap.size most st (.slice A l.length c):=⟨_,rfl⟩;obtain⟨hzz,hzb⟩:=yj6 HV2.out.z HV2.out.be most st (.slice A l.length c);have hrow:Rls w wz A c ((X0.take k).drop 1) l:=(by rw [hwz];exact((HL2.out.set (by simp) _).set (by simp) _).set (by simp) _);rw [<-hwz] at hzz hzb;unfold ql7 at hwz;have HZ:=qh hzz;have HZB:=qh hzb;have HWZ:=qh hwz;have HRO:=qh hrow;clear hzz hzb hwz hrow;go_wp2_with fail;rw [<-HWZ.out];obtain⟨z0,z1,z2⟩:=zq5 HZ.out;refine bodyPost_ret (v:= .tuple #[.agg #[.int .i64 most,.int .i64 st,.slice A l.length c],.int .i64 EL,.int .i64 EE]) (by rw [HF.out.1,HF.out.2];simp [results,Tryz.results6,go_sem,z0,z1,z2]) rfl ⟨most,st,A,c,l,rfl,HRL.out,λ h=>absurd HF.out.2 h,HRO.out.row,HZB.out⟩
        . have q4:(RK==0)=false:=(by rw [beq_eq_false_iff_ne];exact hr);have HF:Hid (EL=0/\EE=RK):=hEE;obtain⟨r0,r1,r2⟩:=zq5 HV2.out.z;have f0:=HV2.out.z.frozen 0;have f1:=HV2.out.z.frozen 1;have f2:=HV2.out.z.frozen 2;obtain⟨wz,hwz⟩:∃ wz,wz=ql7 w2 w.heap.size 0 0 (.slice none 0 0):=⟨_,rfl⟩;obtain⟨hzz,hzb⟩:=yj6 HV2.out.z HV2.out.be 0 0 (.slice none 0 0);rw [<-hwz] at hzz hzb;unfold ql7 at hwz;have HZ:=qh hzz;have HZB:=qh hzb;have HWZ:=qh hwz;clear hzz hzb hwz;go_wp2_with fail;rw [<-HWZ.out];obtain⟨z0,z1,z2⟩:=zq5 HZ.out;refine bodyPost_ret (v:= .tuple #[.agg #[.int .i64 0,.int .i64 0,.slice none 0 0],.int .i64 EL,.int .i64 EE]) (by rw [HF.out.1,HF.out.2];simp [results,Tryz.results6,go_sem,z0,z1,z2]) rfl (RsR.bad HF.out.2 hr HZB.out)
end
end Go.Proofs.YtngepacmgabmaaaGreatDoor
