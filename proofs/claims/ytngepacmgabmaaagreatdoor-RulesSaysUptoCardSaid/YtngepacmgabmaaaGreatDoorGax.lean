/- Walk: wickref.Trie. (printed by gen_trp.py) -/
import Derived.Test.YtngepacmgabmaaaGreatDoorGaw
namespace Go.Proofs.YtngepacmgabmaaaGreatDoor
open Go.RowKit
set_option linter.unusedVariables false
set_option linter.unusedSimpArgs false
def xx5 (vs:List ByteArray) (w:World) (e:Ending) (w':World):Prop:=Below w.heap.size w w'/\((400<(tx (wsL vs) 40).length/\e= .returned (.tuple #[.slice none 0 0,.int .i64 2]))\/((tx (wsL vs) 40).length<=400/\∃ A c,e= .returned (.tuple #[.slice A (tx (wsL vs) 40).length c,.int .i64 0])/\TreeM w' w'.heap.size A (nds (tx (wsL vs) 40)) (enW vs)))
theorem OT.start (w:World):OT (w.alloc (.cells #[.string (str [])] 9)) w.heap.size (.slice (some ⟨w.heap.size,0,none⟩) 1 1) [[]]:=⟨rfl,.inr ⟨w.heap.size,1,#[.string (str [])],rfl,Nat.le_refl _,heap_alloc_new w _,Nat.le_refl _,by unfold maxLen;omega,rfl,rfl⟩⟩
section
variable (vs:List ByteArray) (A:Option Addr) (cap B:Nat) (w:World)
set_option maxRecDepth 100000 in
set_option maxHeartbeats 8000000 in
theorem Kg0 (hS:StW w B A cap vs) (hR:Right vs):Calls Tryz.prog 92 #[.slice A vs.length cap] w (xx5 vs w):=by
 have HS:=qh hS;have hcap:=hS.hc;have HR:=qh hR;have hv30:=hR.few;have hb0:B<=w.heap.size:=hS.hB;have HOT:=qh (OT.start w);have HBS:Hid (Below w.heap.size w (w.alloc (.cells #[.string (str [])] 9))):=qh ((Below.refl _ _).alloc (Nat.le_refl _) _);obtain⟨R,hRe⟩:∃ R,R=xx5 vs w:=⟨_,rfl⟩;rw [<-hRe];have HRE:=qh hRe;clear hRe hS hR;go_enter Tryz.func92,Tryz.ntmps92;go_wp2_with fail;go_loopw [4,5] (λ v u wr=>∃ (n:Nat) (AT:Option Addr) (cT:Nat),u= .int .i64 ((n:Int)+1)/\v= .slice AT (tx (wsL vs) n).length cT/\n<=40/\(tx (wsL vs) n).length<=400/\Hid (OT wr w.heap.size (.slice AT (tx (wsL vs) n).length cT) (tx (wsL vs) n))/\Hid (Below w.heap.size w wr)) (λ _ u _=>41-(intOf u).toNat)
 case atStart=>exact⟨0,_,_,rfl,rfl,by omega,by show 1<=400;omega,HOT,HBS⟩
 case round=>
  clear HOT HBS;obtain⟨n,AT,cT,rfl,rfl,hn,hT4,HT,HB⟩:=hrel;obtain⟨T,hTe⟩:∃ T,T=tx (wsL vs) n:=⟨_,rfl⟩;have HTE:=qh hTe;rw [<-hTe] at hT4 HT⊢;clear hTe;by_cases hlt:n<40
  . have n1:decide ((n:Int)+1<=40)=true:=decide_eq_true (by omega);have n2:(n:Int)+1<=40:=(by omega);have n3:IntKind.i64.wrap ((n:Int)+1+1)=(n:Int)+1+1:=IntWalk.i64_in _ (by omega);have n4:IntKind.i64.wrap ((n:Int)+1-1)=(n:Int):=(IntWalk.i64_in _ (by omega)).trans (by omega);have n5:IntKind.i64.wrap ((n:Int))=(n:Int):=IntWalk.i64_in _ (by omega);obtain⟨Hn,hHn⟩:∃ Hn,Hn=wr.heap.size:=⟨_,rfl⟩;have HVT:Hid (∀ x,(Value.slice AT T.length cT).ownBlock=some x->x<Hn):=qh (by rw [hHn];exact HT.out.lt);have hwn:w.heap.size<=Hn:=(by rw [hHn];exact HB.out.size);obtain⟨wm,rfl⟩:∃ wm:World,wm=wr:=⟨_,rfl⟩;have hHm:Hn<=wm.heap.size:=by rw [hHn];exact Nat.le_refl _
    have hT40:∀ k,k<T.length->(T.getD k []).length<=n:=λ k hk=>by
     have h1:=z32 hk;rw [HTE.out] at h1⊢;exact((YY6 _ _ _).1 h1).1
    have HT40:=qh hT40;clear hHn hn hlt hT40;go_wp2_with fail;go_loopw [6,7] (λ v u wr=>∃ (up:Nat) (A2:Option Addr) (c2:Nat) (M:List (List UInt8)),u= .int .i64 (up:Int)/\v= .slice A2 M.length c2/\up<=T.length/\Hid (M=lvP (wsL vs) n T up)/\Hid (OT wr Hn (.slice A2 M.length c2) M)/\Hid (Below Hn wm wr)) (λ _ u _=>T.length-(intOf u).toNat)
    case atStart=>exact⟨0,none,0,[],rfl,rfl,Nat.zero_le _,qh rfl,qh (OT.nil _ _),qh (Below.refl _ _)⟩
    case round=>
     obtain⟨up,A2,c2,M,rfl,rfl,hup,HM,HO,HBm⟩:=hrel;by_cases hlu:up<T.length
     . have j1:(up:Int)<(T.length:Int):=(by omega);have j0:(0:Int)<=(up:Int):=(by omega);have jw:IntKind.i64.wrap ((up:Int)+1)=(up:Int)+1:=IntWalk.i64_in _ (by omega);have hTr:=HT.out.low HVT.out HBm.out;obtain⟨gT,rfl,t0,t1⟩:=hTr.at_ hlu;obtain⟨s,hs⟩:∃ s,s=str (T.getD up []):=⟨_,rfl⟩;rw [<-hs] at t0 t1;have hsz:s.size=(T.getD up []).length:=(by rw [hs,Xp5]);have HSZ:=qh hsz;have hs40:s.size<=n:=(by rw [hsz];exact HT40.out up hlu);have HSS:=qh hs;clear hs hsz hTr;by_cases hln:(T.getD up []).length=n
       . have c1:((s.size:Int) !=(n:Int))=false:=bne_eq_false_iff_eq.2 (by rw [HSZ.out,hln]);have HLN:=qh hln;clear hln
         have HTX:Hid (∀ w',Below Hn wm w'->w'.cell? ⟨gT,up,none⟩=some (.string s)/\w'.cell? ((⟨gT,0,none⟩:Addr).add up)=some (.string s)):=qh λ w' hb=>by
          obtain⟨g',e,h1,h2⟩:=(HT.out.low HVT.out hb).at_ hlu;injection e with e;injection e with e;subst e;rw [HSS.out];exact⟨h1,h2⟩
         go_wp2_with fail;clear t0 t1;obtain⟨w0,rfl⟩:∃ w0:World,w0=wr:=⟨_,rfl⟩;go_loopw [6,8] (λ v u wr=>∃ (b:Nat) (A3:Option Addr) (c3:Nat) (M3:List (List UInt8)),u= .int .i64 (b:Int)/\v= .slice A3 M3.length c3/\b<=256/\Hid (M3=lvP (wsL vs) n T up++nxP (wsL vs) (T.getD up []) b)/\Hid (OT wr Hn (.slice A3 M3.length c3) M3)/\Hid (Below Hn wm wr)) (λ _ u _=>256-(intOf u).toNat)
         case atStart=>exact⟨0,A2,c2,M,rfl,rfl,by omega,qh (by rw [zL0,List.append_nil];exact HM.out),HO,HBm⟩
         case round=>
          clear HM HO HBm;obtain⟨b,A3,c3,M3,rfl,rfl,hb,HM,HO,HBm⟩:=hrel;by_cases hlb:b<256
          . have b1:decide ((b:Int)<256)=true:=decide_eq_true (by omega);have b2:(b:Int)<256:=(by omega);have b3:IntKind.i64.wrap ((b:Int)+1)=(b:Int)+1:=IntWalk.i64_in _ (by omega);have b4:IntKind.u8.wrap (b:Int)=(b:Int):=IntWalk.u8_in _ (by omega);have hB0:Below wr.heap.size wr (wr.alloc (.cells #[.int .u8 (b:Int)] 5)):=(Below.refl _ _).alloc (Nat.le_refl _) _;have hHr:Hn<=wr.heap.size:=Nat.le_trans hHm HBm.out.size;have HB0:Hid (Below Hn wm (wr.alloc (.cells #[.int .u8 (b:Int)] 5))):=qh (HBm.out.trans (hB0.mono hHr));obtain⟨k0,k1⟩:=HTX.out wr HBm.out;obtain⟨k2,k3⟩:=HTX.out _ HB0.out;have hcv:=qn5 wr (b:Int);have hss:¬(9223372036854775807:Nat)<s.size+1:=(by omega);have HO0:Hid (OT (wr.alloc (.cells #[.int .u8 (b:Int)] 5)).drew Hn (.slice A3 M3.length c3) M3):=qh (HO.out.kept hB0.drew);have HB0:Hid (Below Hn wm (wr.alloc (.cells #[.int .u8 (b:Int)] 5)).drew):=qh HB0.out.drew;clear hB0;go_wp2_with fail;go_region
            all_goals
             obtain⟨tl,htl⟩:∃ tl,tl=T.getD up []++ [bt b]:=⟨_,rfl⟩;have hte:s++str [UInt8.ofNat b]=str tl:=(by rw [HSS.out,Yz0,htl];rfl);rw [hte]
             have htn:tl.length<=41:=by
              have:=HT40.out up hlu;rw [htl,xJ1];omega
             have hts:(str tl).size<=41:=(by rw [Xp5];exact htn);have HTL:=qh htl;obtain⟨W,hW⟩:∃ W,(wr.alloc (.cells #[.int .u8 (b:Int)] 5)).drew=W:=⟨_,rfl⟩;rw [hW] at HO0 HB0⊢;clear hW hte htl k0 k1 k2 k3 hcv hss b4 HO HBm;go_wp2_with fail;go_loopw [6,10] (λ v u wr=>∃ (i:Nat),u= .int .i64 (i:Int)/\v= .slice A3 M3.length c3/\i<=vs.length/\Hid (∀ j (hj:j<vs.length),j<i->tl.isPrefixOf vs[j].data.toList=false)/\Hid (OT wr Hn (.slice A3 M3.length c3) M3)/\Hid (Below Hn wm wr)) (λ _ u _=>vs.length-(intOf u).toNat)
             case atStart=>exact⟨0,rfl,rfl,Nat.zero_le _,qh (λ j hj h=>absurd h (Nat.not_lt_zero j)),HO0,HB0⟩
             case round=>
              clear HO0 HB0;obtain⟨i,rfl,rfl,hi,HN,HO,HBm⟩:=hrel;have hHs:Hn<=wr.heap.size:=Nat.le_trans hHm HBm.out.size;by_cases hli:i<vs.length
              . have i1:(i:Int)<(vs.length:Int):=(by omega);have i0:(0:Int)<=(i:Int):=(by omega);have iw:IntKind.i64.wrap ((i:Int)+1)=(i:Int)+1:=IntWalk.i64_in _ (by omega);obtain⟨ad,rfl,hab,hcl⟩:=(HS.out.below ((HB.out.trans (HBm.out.mono hwn)).mono hb0)).at_ hli;have hv40:=(HR.out.sz _ (List.getElem_mem hli)).2;have CA:=qh (yb5 vs[i] (str tl) 0 wr (by omega) (by omega) (by omega) (by omega));by_cases hp:tl.isPrefixOf vs[i].data.toList=true
                . have HP:Hid (atB vs[i].data.toList 0 (str tl).data.toList=true):=qh (by rw [QM1,Qe9];exact hp)
                  have HM2:Hid (M3++ [tl]=lvP (wsL vs) n T up++nxP (wsL vs) (T.getD up []) (b+1)):=qh (by
                   rw [Yd9 (by rw [<-HTL.out];exact jQ0 (qP8 hli) hp),<-HTL.out,<-List.append_assoc,HM.out])
                  have HM3:Hid (M3.length<=1000000000):=qh (by
                   have h1:=jE2 (wsL vs) n T up (Nat.le_of_lt hlu);have h2:=yv5 (wsL vs) (T.getD up []) b;rw [HM.out,List.length_append];omega)
                  clear hp HM;go_wp2_with fail;refine CA.out.mono ?_;rintro e w2 ⟨rfl,rfl⟩;rw [HP.out];clear CA HP;go_wp2_with (first|(at_builtin;refine YX9 rfl (.tmp 61) (.tmp 63) rfl HO.out rfl tl rfl (by have:=HM3.out;omega) hHs ?_;intro A5 c5 w5 h5 b5)|fail);have HO5:Hid (OT w5 Hn (.slice A5 (M3++ [tl]).length c5) (M3++ [tl])):=qh (by rw [List.length_append,List.length_singleton];exact h5);have HB5:Hid (Below Hn wm w5):=qh (HBm.out.trans b5);have hl5:M3.length+1=(M3++ [tl]).length:=(by rw [List.length_append,List.length_singleton]);rw [hl5];clear h5 b5 HO HBm hl5;go_wp2_with fail;go_roundw
                  case rel=>exact⟨b+1,A5,c5,M3++ [tl],by go_num,rfl,by omega,HM2,HO5,HB5⟩
                  case measure=>simp [intOf];omega
                . have HP:Hid (atB vs[i].data.toList 0 (str tl).data.toList=false):=qh (by rw [QM1,Qe9];exact Bool.eq_false_iff.2 hp)
                  have HN2:Hid (∀ j (hj:j<vs.length),j<i+1->tl.isPrefixOf vs[j].data.toList=false):=qh λ j hj hji=>by
                   by_cases e:j=i
                   . subst e;exact Bool.eq_false_iff.2 hp
                   . exact HN.out j hj (by omega)
                  clear hp;go_wp2_with fail;refine CA.out.mono ?_;rintro e w2 ⟨rfl,rfl⟩;rw [HP.out];clear CA HP;go_wp2_with fail;go_roundw
                  case rel=>exact⟨i+1,by go_num,rfl,by omega,HN2,HO,HBm⟩
                  case measure=>simp [intOf];omega
              . obtain rfl:i=vs.length:=by omega
                have HM2:Hid (M3=lvP (wsL vs) n T up++nxP (wsL vs) (T.getD up []) (b+1)):=qh (by
                 rw [Kf3 ?_]
                 . exact HM.out
                 . rw [<-HTL.out];refine Xm5 λ w hw=> ?_
                   obtain⟨q,hq,rfl⟩:=List.mem_iff_getElem.1 hw;have hq2:q<vs.length:=(by rw [Zh9] at hq;exact hq);rw [qH5 hq2];exact HN.out q hq2 hq2)
                clear hli hi HN HM;go_wp2_with fail;go_roundw
                case rel=>exact⟨b+1,A3,c3,M3,by go_num,rfl,by omega,HM2,HO,HBm⟩
                case measure=>simp [intOf];omega
          . obtain rfl:b=256:=(by omega);have HM2:Hid (M3=lvP (wsL vs) n T (up+1)):=qh (by rw [Yk3 hlu,if_pos HLN.out,<-Ki5];exact HM.out);clear hlb hb;go_wp2_with fail;go_roundw
            case rel=>exact⟨up+1,A3,c3,M3,by go_num,rfl,by omega,HM2,HO,HBm⟩
            case measure=>simp [intOf];omega
       . have c1:((s.size:Int) !=(n:Int))=true:=bne_iff_ne.2 (by rw [HSZ.out];omega);have HM2:Hid (M=lvP (wsL vs) n T (up+1)):=qh (by rw [Yk3 hlu,if_neg hln,List.append_nil];exact HM.out);clear hln;go_wp2_with fail;go_roundw
         case rel=>exact⟨up+1,A2,c2,M,by go_num,rfl,by omega,HM2,HO,HBm⟩
         case measure=>simp [intOf];omega
     . obtain rfl:up=T.length:=(by omega);have HM4:Hid (M=lv (wsL vs) n T):=qh (by rw [HM.out,Ym6])
       have hml:M.length<=102400:=by
        have h1:=jE2 (wsL vs) n T T.length (Nat.le_refl _);rw [<-HM.out] at h1;omega
       have HTr:=qh (HT.out.low HVT.out HBm.out);have HTX:Hid (T++M=tx (wsL vs) (n+1)):=qh (by rw [HM4.out,HTE.out];rfl);have hwr:w.heap.size<=wr.heap.size:=Nat.le_trans hwn (Nat.le_trans hHm HBm.out.size);have HBw:Hid (Below w.heap.size w wr):=qh (HB.out.trans (HBm.out.mono hwn));clear hlu hup;by_cases h4:400<T.length+M.length
       . have d1:decide ((400:Int)<(T.length:Int)+(M.length:Int))=true:=decide_eq_true (by omega);have d2:(400:Int)<(T.length:Int)+(M.length:Int):=(by omega);have HBIG:Hid (400<(tx (wsL vs) 40).length):=qh (Nat.lt_of_lt_of_le h4 (by rw [<-List.length_append,HTX.out];exact QF5 (wsL vs) (by omega)));clear h4;go_wp2_with (first|(at_builtin;refine ju2 rfl (.tmp 65) (.tmp 66) rfl HTr.out rfl HO.out rfl (by omega) hwr ?_;intro A5 c5 w5 h5 b5)|fail);rw [HRE.out];exact⟨HBw.out.trans b5,.inl ⟨HBIG.out,rfl⟩⟩
       . have d1:decide ((400:Int)<(T.length:Int)+(M.length:Int))=false:=decide_eq_false (by omega);have d2:¬(400:Int)<(T.length:Int)+(M.length:Int):=(by omega);have hl4:T.length+M.length<=400:=(by omega);have hl5:T.length+M.length=(T++M).length:=(by rw [List.length_append]);have HL5:=qh hl5;clear h4 hl5;go_wp2_with (first|(at_builtin;refine ju2 rfl (.tmp 65) (.tmp 66) rfl HTr.out rfl HO.out rfl (by omega) hwr ?_;intro A5 c5 w5 h5 b5)|fail);refine⟨⟨n+1,A5,c5,by go_num,by rw [<-HTX.out,<-HL5.out],by omega,by rw [<-HTX.out,<-HL5.out];exact hl4,?_,qh (HBw.out.trans b5)⟩,by simp [intOf];omega⟩;rw [<-HTX.out,<-HL5.out];exact qh h5
  . obtain rfl:n=40:=(by omega);clear hlt hn;have e41:((40:Nat):Int)+1=41:=rfl;rw [e41];clear e41;obtain⟨D,hD⟩:∃ D,D=nds (tx (wsL vs) 40):=⟨_,rfl⟩;have HDE:=qh hD;have HDL:Hid (D.length=T.length):=qh (by rw [hD,HTE.out,k55]);have HND:Hid (∀ k,k<T.length->D.getD k (0,0,0)=ndI T (T.getD k [])):=qh λ k hk=>by rw [HTE.out] at hk⊢;rw [hD];exact qD1 hk
    have HGD:Hid (Gd T):=qh (by rw [HTE.out];exact Gd.tx _ _);have HEW:Hid (∀ k,enW vs k=enI (wsL vs) (T.getD k [])):=qh λ k=>by rw [HTE.out];rfl
    have HT40:Hid (∀ k,k<T.length->(T.getD k []).length<=40):=qh λ k hk=>by
     have h1:=z32 hk;rw [HTE.out] at h1⊢;exact((YY6 _ _ _).1 h1).1
    have hTp:0<T.length:=HGD.out.po;obtain⟨wm,rfl⟩:∃ wm:World,wm=wr:=⟨_,rfl⟩;have hwm:w.heap.size<=wm.heap.size:=HB.out.size;obtain⟨gT,rfl,_,_⟩:=HT.out.at_ hTp
    have HTA:Hid (∀ w',Below wm.heap.size wm w'->∀ k,k<T.length->w'.cell? ⟨gT,k,none⟩=some (.string (str (T.getD k [])))/\w'.cell? ((⟨gT,0,none⟩:Addr).add k)=some (.string (str (T.getD k [])))):=qh λ w' hb k hk=>by
     obtain⟨g',e,h1,h2⟩:=(HT.out.kept hb).at_ hk;injection e with e;injection e with e;subst e;exact⟨h1,h2⟩
    have HOt:=qh (Ot.nil wm.heap.size (enW vs) wm (Nat.le_refl _));clear hD;go_wp2_with fail;go_loopw [11,12] (λ v u wr=>∃ (i H:Nat) (AO:Option Addr) (cO:Nat) (l:List (Nat×Nat×Nat×Value)),u= .int .i64 (i:Int)/\v= .slice AO l.length cO/\i<=T.length/\l.length=i/\Hid (∀ k (hk:k<l.length),(l[k].1,l[k].2.1,l[k].2.2.1)=D.getD k (0,0,0))/\Hid (Ot wm.heap.size H (.slice AO l.length cO) l (enW vs) wr)/\Hid (Below wm.heap.size wm wr)) (λ _ u _=>T.length-(intOf u).toNat)
    case atStart=>exact⟨0,_,none,0,[],rfl,rfl,Nat.zero_le _,rfl,qh (λ k hk=>absurd hk (Nat.not_lt_zero k)),HOt,qh (Below.refl _ _)⟩
    case round=>
     clear HOt;obtain⟨i,H,AO,cO,l,rfl,rfl,hi,hll,HL,HO,HBm⟩:=hrel;have HLL:=qh hll;by_cases hlt:i<T.length
     . have i1:(i:Int)<(T.length:Int):=(by omega);have i0:(0:Int)<=(i:Int):=(by omega);have iw:IntKind.i64.wrap ((i:Int)+1)=(i:Int)+1:=IntWalk.i64_in _ (by omega);have hHr:wm.heap.size<=wr.heap.size:=HBm.out.size;have hB0:Below wr.heap.size wr (wr.alloc (.cells #[.int .u8 0,.int .i64 0,.int .i64 0,.slice none 0 0] 165)):=(Below.refl _ _).alloc (Nat.le_refl _) _;have hBz:Below wm.heap.size wm (wr.alloc (.cells #[.int .u8 0,.int .i64 0,.int .i64 0,.slice none 0 0] 165)):=HBm.out.trans (hB0.mono hHr);have hOz:Ot wm.heap.size wr.heap.size (.slice AO l.length cO) l (enW vs) (wr.alloc (.cells #[.int .u8 0,.int .i64 0,.int .i64 0,.slice none 0 0] 165)):=(HO.out.up HO.out.hi (Nat.le_refl _)).step hB0;have hX:Blk (wr.alloc (.cells #[.int .u8 0,.int .i64 0,.int .i64 0,.slice none 0 0] 165)) wr.heap.size 165 #[.int .u8 0,.int .i64 0,.int .i64 0,.slice none 0 0]:=Blk.new wr _ _;have hgXw:wr.heap.size<(wr.alloc (.cells #[.int .u8 0,.int .i64 0,.int .i64 0,.slice none 0 0] 165)).heap.size:=Blk.lt hX;obtain⟨s,hs⟩:∃ s,s=str (T.getD i []):=⟨_,rfl⟩;obtain⟨t0,t1⟩:=HTA.out _ hBz i hlt;rw [<-hs] at t0 t1;have hsz:s.size=(T.getD i []).length:=(by rw [hs,Xp5]);have HSZ:=qh hsz;have hs40:s.size<=40:=(by rw [hsz];exact HT40.out i hlt);have HSS:Hid (s.data.toList=T.getD i []):=qh (by rw [hs]);have z0:(wr.alloc (.cells #[.int .u8 0,.int .i64 0,.int .i64 0,.slice none 0 0] 165)).cell? ⟨wr.heap.size,0,none⟩=some (.int .u8 0):=hX.cell 0;have z1:(wr.alloc (.cells #[.int .u8 0,.int .i64 0,.int .i64 0,.slice none 0 0] 165)).cell? ⟨wr.heap.size,1,none⟩=some (.int .i64 0):=hX.cell 1;have z2:(wr.alloc (.cells #[.int .u8 0,.int .i64 0,.int .i64 0,.slice none 0 0] 165)).cell? ⟨wr.heap.size,2,none⟩=some (.int .i64 0):=hX.cell 2;have z3:(wr.alloc (.cells #[.int .u8 0,.int .i64 0,.int .i64 0,.slice none 0 0] 165)).cell? ⟨wr.heap.size,3,none⟩=some (.slice none 0 0):=hX.cell 3
       have fz0:(wr.alloc (.cells #[.int .u8 0,.int .i64 0,.int .i64 0,.slice none 0 0] 165)).frozen? ⟨wr.heap.size,0,none⟩=false:=hX.frozen 0;have fz1:(wr.alloc (.cells #[.int .u8 0,.int .i64 0,.int .i64 0,.slice none 0 0] 165)).frozen? ⟨wr.heap.size,1,none⟩=false:=hX.frozen 1;have fz2:(wr.alloc (.cells #[.int .u8 0,.int .i64 0,.int .i64 0,.slice none 0 0] 165)).frozen? ⟨wr.heap.size,2,none⟩=false:=hX.frozen 2;have fz3:(wr.alloc (.cells #[.int .u8 0,.int .i64 0,.int .i64 0,.slice none 0 0] 165)).frozen? ⟨wr.heap.size,3,none⟩=false:=hX.frozen 3;have HX:=qh hX;have HBz:=qh hBz;have HOz:=qh hOz;clear hB0 hX hBz hOz hs hsz hll;go_upto_region 28 with fail;clear z0 z1 z2 z3 fz0 fz1 fz2 fz3 t0 t1;obtain⟨W,hW⟩:∃ W,(wr.alloc (.cells #[.int .u8 0,.int .i64 0,.int .i64 0,.slice none 0 0] 165))=W:=⟨_,rfl⟩;rw [hW] at HX HBz HOz hgXw⊢;obtain⟨gX,hgX⟩:∃ gX,wr.heap.size=gX:=⟨_,rfl⟩;rw [hgX] at HX HOz hHr hgXw⊢;clear hW hgX HO HBm;go_upto_if 83 with fail;go_cut [15] from 83 to 121 (λ _ wx=>Hid (Blk wx gX 165 #[.int .u8 ((D.getD i (0,0,0)).1:Int),.int .i64 ((D.getD i (0,0,0)).2.1:Int),.int .i64 ((D.getD i (0,0,0)).2.2:Int),.slice none 0 0])/\Hid (Ot wm.heap.size gX (.slice AO l.length cO) l (enW vs) wx)/\Hid (Below wm.heap.size wm wx)/\Hid (gX<wx.heap.size))
       case first=>
        by_cases hi0:i=0
        . have d1:decide ((0:Int)<(i:Int))=false:=decide_eq_false (by omega);have d2:¬(0:Int)<(i:Int):=by omega
          have HX2:Hid (Blk W gX 165 #[.int .u8 ((D.getD i (0,0,0)).1:Int),.int .i64 ((D.getD i (0,0,0)).2.1:Int),.int .i64 ((D.getD i (0,0,0)).2.2:Int),.slice none 0 0]):=qh (by
           rw [HND.out i hlt,hi0,Q78 HGD.out];exact HX.out)
          have HXw:=qh hgXw;clear hi0;go_wp2_with fail;go_meet;exact⟨HX2,HOz,HBz,HXw⟩
        . have d1:decide ((0:Int)<(i:Int))=true:=decide_eq_true (by omega);have d2:(0:Int)<(i:Int):=(by omega);have hne:T.getD i []≠ []:=λ e=>hi0 (q75 HGD.out.nd hlt HGD.out.po (by rw [e,HGD.out.he]))
          have hpos:0<s.size:=(by rw [HSZ.out];exact List.length_pos_iff.2 hne);have s1:IntKind.i64.wrap ((s.size:Int)-1)=(s.size:Int)-1:=IntWalk.i64_in _ (by omega);have s2:(0:Int)<=(s.size:Int)-1:=(by omega);have s3:(s.size:Int)-1<(s.size:Int):=(by omega);have s4:((s.size:Int)-1).toNat=s.size-1:=(by omega);have s5:(s.size:Int)-1<=(s.size:Int):=(by omega);have HNE:=qh hne;obtain⟨z0,z1,z2,z3⟩:=Blk.c4 HX.out;obtain⟨zf0,zf1,zf2,zf3⟩:=Blk.f4 HX.out;clear hi0 hne;go_upto_region 30 with fail;have hB1:Below gX W (W.setCell ⟨gX,0,none⟩ (.int .u8 (s[s.size-1].toNat:Int))):=(Below.refl _ _).setCell (p:=⟨gX,0,none⟩) (Nat.le_refl _) _
          have hb1:s[s.size-1].toNat=(D.getD i (0,0,0)).1:=by
           rw [HND.out i hlt];show _=byI (T.getD i []);rw [XX0 (by rw [<-HSZ.out];exact hpos)];have e:str (T.getD i [])=s:=(by rw [<-HSS.out]);congr 1;simp only [e]
          obtain⟨dd,hdd⟩:∃ dd,D.getD i (0,0,0)=dd:=⟨_,rfl⟩;rw [hdd] at hb1;have HDD:=qh hdd
          have HX1:Hid (Blk (W.setCell ⟨gX,0,none⟩ (.int .u8 (s[s.size-1].toNat:Int))) gX 165 #[.int .u8 (dd.1:Int),.int .i64 0,.int .i64 0,.slice none 0 0]):=qh (by
           have h:=HX.out.set_ 0 (.int .u8 (s[s.size-1].toNat:Int));rw [<-hb1];exact h)
          have HO1:Hid (Ot wm.heap.size gX (.slice AO l.length cO) l (enW vs) (W.setCell ⟨gX,0,none⟩ (.int .u8 (s[s.size-1].toNat:Int)))):=qh (HOz.out.step hB1);have HB1:Hid (Below wm.heap.size wm (W.setCell ⟨gX,0,none⟩ (.int .u8 (s[s.size-1].toNat:Int)))):=qh (HBz.out.trans (hB1.mono hHr));obtain⟨W1,hW1⟩:∃ W1,W.setCell ⟨gX,0,none⟩ (.int .u8 (s[s.size-1].toNat:Int))=W1:=⟨_,rfl⟩;rw [hW1] at HX1 HO1 HB1⊢;clear hW1 hB1 hb1 hdd HX HOz HBz z0 z1 z2 z3 zf0 zf1 zf2 zf3
          have CX:Hid (Calls Tryz.prog 121 #[.slice (some ⟨gT,0,none⟩) T.length cT,.string (s.extract 0 (s.size-1))] W1 λ e w'=>e= .returned (.int .i64 (dd.2.1:Int))/\W1=w'):=qh (by
           have hl:(T.map str).length=T.length:=List.length_map _
           have hc:=Tryz.slices_Index_string gT 0 T.length cT (T.map str) (s.extract 0 (s.size-1)) W1 (by rw [hl];exact Nat.le_refl _) (by omega) (λ j hj=>by
            rw [hl] at hj;have h1:=(HTA.out W1 HB1.out j hj).1;rw [Nat.zero_add,h1,gD _ hj,gD _ (by rw [hl];exact hj),List.getElem_map])
           refine hc.mono ?_;rintro e w' ⟨rfl,rfl⟩;refine⟨?_,rfl⟩;rw [List.take_of_length_le (by rw [hl];exact Nat.le_refl _)]
           have e1:s.extract 0 (s.size-1)=str (T.getD i []).dropLast:=by
            apply zH9;rw [Yz8,List.drop_zero,Qe9,HSS.out,List.dropLast_eq_take,HSZ.out]
           have e2:dd.2.1=ix T (T.getD i []).dropLast:=(by rw [<-HDD.out,HND.out i hlt];rfl);rw [e1,Jk7 HGD.out.nd (HGD.out.cl _ (z32 hlt) HNE.out),e2])
          obtain⟨y0,y1,y2,y3⟩:=Blk.c4 HX1.out;obtain⟨yf0,yf1,yf2,yf3⟩:=Blk.f4 HX1.out;go_upto_region 31 with(first|(refine CX.out.mono ?_;rintro e w' ⟨rfl,rfl⟩)|fail);have hB2:Below gX W1 (W1.setCell ⟨gX,1,none⟩ (.int .i64 (dd.2.1:Int))):=(Below.refl _ _).setCell (p:=⟨gX,1,none⟩) (Nat.le_refl _) _;have HX2:Hid (Blk (W1.setCell ⟨gX,1,none⟩ (.int .i64 (dd.2.1:Int))) gX 165 #[.int .u8 (dd.1:Int),.int .i64 (dd.2.1:Int),.int .i64 0,.slice none 0 0]):=qh (HX1.out.set_ 1 _);have HO2:Hid (Ot wm.heap.size gX (.slice AO l.length cO) l (enW vs) (W1.setCell ⟨gX,1,none⟩ (.int .i64 (dd.2.1:Int)))):=qh (HO1.out.step hB2);have HB2:Hid (Below wm.heap.size wm (W1.setCell ⟨gX,1,none⟩ (.int .i64 (dd.2.1:Int)))):=qh (HB1.out.trans (hB2.mono hHr));obtain⟨W2,hW2⟩:∃ W2,W1.setCell ⟨gX,1,none⟩ (.int .i64 (dd.2.1:Int))=W2:=⟨_,rfl⟩;rw [hW2] at HX2 HO2 HB2⊢;clear hW2 hB2 CX HX1 HO1 HB1 d1 d2 y0 y1 y2 y3 yf0 yf1 yf2 yf3 hgXw;go_wp2_with fail;go_loopw [15] (λ u wr=>∃ (k:Nat),u= .int .i64 (k:Int)/\k<=T.length/\Hid (Blk wr gX 165 #[.int .u8 (dd.1:Int),.int .i64 (dd.2.1:Int),.int .i64 (flN T (T.getD i []) k:Int),.slice none 0 0])/\Hid (Ot wm.heap.size gX (.slice AO l.length cO) l (enW vs) wr)/\Hid (Below wm.heap.size wm wr)) (λ u _=>T.length-(intOf u).toNat)
          case atStart=>exact⟨0,rfl,Nat.zero_le _,HX2,HO2,HB2⟩
          case round=>
           clear HX2 HO2 HB2;obtain⟨k,rfl,hk,HX,HO,HBm⟩:=hrel;by_cases hlk:k<T.length
           . have k1:(k:Int)<(T.length:Int):=(by omega);have k0:(0:Int)<=(k:Int):=(by omega);have kw:IntKind.i64.wrap ((k:Int)+1)=(k:Int)+1:=IntWalk.i64_in _ (by omega);obtain⟨x0,x1⟩:=HTA.out wr HBm.out k hlk;obtain⟨q,hq⟩:∃ q,q=str (T.getD k []):=⟨_,rfl⟩;rw [<-hq] at x0 x1;have hqz:q.size=(T.getD k []).length:=(by rw [hq,Xp5]);have hqd:q.data.toList=T.getD k []:=(by rw [hq]);have HQZ:=qh hqz;have hq40:q.size<=40:=(by rw [hqz];exact HT40.out k hlk);have CE:=qh (za7 s q wr (by omega) (by omega));have c2:=Blk.e2 HX.out;have c2f:=Blk.frozen HX.out 2;rw [hqd,HSS.out] at CE;clear hq hqz hqd;by_cases hlen:(T.getD k []).length<(T.getD i []).length
             . have e1:decide ((q.size:Int)<(s.size:Int))=true:=decide_eq_true (by rw [HQZ.out,HSZ.out];omega);have e2:(q.size:Int)<(s.size:Int):=(by rw [HQZ.out,HSZ.out];omega);by_cases hsuf:(T.getD k []).isSuffixOf (T.getD i [])=true
               . rw [hsuf] at CE;have HF:Hid (flN T (T.getD i []) (k+1)=k):=qh (qU9 hlen hsuf);clear hlen hsuf;go_wp2_with (first|(refine CE.out.mono ?_;rintro e w' ⟨rfl,rfl⟩)|fail);have hB2:Below gX wr (wr.setCell ⟨gX,2,none⟩ (.int .i64 (k:Int))):=(Below.refl _ _).setCell (p:=⟨gX,2,none⟩) (Nat.le_refl _) _;have HX2:Hid (Blk (wr.setCell ⟨gX,2,none⟩ (.int .i64 (k:Int))) gX 165 #[.int .u8 (dd.1:Int),.int .i64 (dd.2.1:Int),.int .i64 (flN T (T.getD i []) (k+1):Int),.slice none 0 0]):=qh (by rw [HF.out];exact HX.out.set_ 2 _);have HO2:Hid (Ot wm.heap.size gX (.slice AO l.length cO) l (enW vs) (wr.setCell ⟨gX,2,none⟩ (.int .i64 (k:Int)))):=qh (HO.out.step hB2);have HB2:Hid (Below wm.heap.size wm (wr.setCell ⟨gX,2,none⟩ (.int .i64 (k:Int)))):=qh (HBm.out.trans (hB2.mono hHr));go_roundw
                 case rel=>exact⟨k+1,by go_num,by omega,HX2,HO2,HB2⟩
                 case measure=>simp [intOf];omega
               . rw [Bool.eq_false_iff.2 hsuf] at CE;have HF:Hid (flN T (T.getD i []) (k+1)=flN T (T.getD i []) k):=qh (x96 (λ h=>hsuf h.2));clear hlen hsuf c2 c2f;go_wp2_with (first|(refine CE.out.mono ?_;rintro e w' ⟨rfl,rfl⟩)|fail);go_roundw
                 case rel=>exact⟨k+1,by go_num,by omega,qh (by rw [HF.out];exact HX.out),HO,HBm⟩
                 case measure=>simp [intOf];omega
             . have e1:decide ((q.size:Int)<(s.size:Int))=false:=decide_eq_false (by rw [HQZ.out,HSZ.out];omega);have e2:¬(q.size:Int)<(s.size:Int):=(by rw [HQZ.out,HSZ.out];omega);have HF:Hid (flN T (T.getD i []) (k+1)=flN T (T.getD i []) k):=qh (x96 (λ h=>hlen h.1));clear hlen c2 c2f;go_wp2_with fail;go_roundw
               case rel=>exact⟨k+1,by go_num,by omega,qh (by rw [HF.out];exact HX.out),HO,HBm⟩
               case measure=>simp [intOf];omega
           . obtain rfl:k=T.length:=(by omega);have hff:flN T (T.getD i []) T.length=dd.2.2:=(by rw [<-HDD.out,HND.out i hlt];rfl);rw [hff] at HX;have HXw:=qh (Blk.lt HX.out);clear hlk hk hff;go_wp2_with fail;go_meet;rw [HDD.out];exact⟨HX,HO,HBm,HXw⟩
       case rest=>
        obtain⟨HX,HOz,HBz,HXw⟩:=hcut;obtain⟨dd,hdd⟩:∃ dd,D.getD i (0,0,0)=dd:=⟨_,rfl⟩;rw [hdd] at HX;have HDD:=qh hdd;have HO0:Hid (OwI wc (gX+1) (.slice none 0 0) []):=qh (OwI.nil _ _);clear hdd HXw;go_wp2_with fail;go_loopw [16] (λ u wr=>∃ (k:Nat) (AE:Option Addr) (cE:Nat) (xs:List Nat),u= .int .i64 (k:Int)/\k<=vs.length/\Hid (xs=enP (wsL vs) (T.getD i []) k)/\Hid (Blk wr gX 165 #[.int .u8 (dd.1:Int),.int .i64 (dd.2.1:Int),.int .i64 (dd.2.2:Int),.slice AE xs.length cE])/\Hid (OwI wr (gX+1) (.slice AE xs.length cE) xs)/\Hid (Ot wm.heap.size gX (.slice AO l.length cO) l (enW vs) wr)/\Hid (Below wm.heap.size wm wr)) (λ u _=>vs.length-(intOf u).toNat)
        case atStart=>exact⟨0,none,0,[],rfl,Nat.zero_le _,qh rfl,HX,HO0,HOz,HBz⟩
        case round=>
         clear HX HO0 HOz HBz;obtain⟨k,AE,cE,xs,rfl,hk,HXS,HX,HE,HO,HBm⟩:=hrel;have c3:=Blk.e3 HX.out;have c3f:=Blk.frozen HX.out 3;have hHs:gX+1<=wr.heap.size:=Blk.lt HX.out
         have hxl:xs.length<=30:=by
          have h1:=qt5 (wsL vs) (T.getD i []) k;rw [HXS.out];omega
         by_cases hlk:k<vs.length
         . have k1:(k:Int)<(vs.length:Int):=(by omega);have k0:(0:Int)<=(k:Int):=(by omega);have kw:IntKind.i64.wrap ((k:Int)+1)=(k:Int)+1:=IntWalk.i64_in _ (by omega);obtain⟨ad,rfl,hab,hcl⟩:=(HS.out.below ((HB.out.trans (HBm.out.mono hwm)).mono hb0)).at_ hlk;have hv40:=(HR.out.sz _ (List.getElem_mem hlk)).2;have CE:=qh (za7 s vs[k] wr (by omega) (by omega));have hkd:(wsL vs).getD k []=vs[k].data.toList:=(by rw [gD [] (by rw [Zh9];exact hlk),qH5 hlk]);rw [HSS.out,<-hkd] at CE;clear hkd;by_cases hsuf:((wsL vs).getD k []).isSuffixOf (T.getD i [])=true
           . rw [hsuf] at CE;have HXS2:Hid (xs++ [k]=enP (wsL vs) (T.getD i []) (k+1)):=qh (by rw [Ze5 hsuf,HXS.out]);clear hsuf HXS;go_wp2_with (first|(refine CE.out.mono ?_;rintro e w' ⟨rfl,rfl⟩)|(at_builtin;refine K07 rfl (.tmp 135) (.tmp 137) rfl HE.out rfl k rfl (by omega) hHs ?_;intro A5 c5 w5 h5 b5;have hx5:=Blk.below HX.out b5 (Nat.lt_succ_self _);have y3:w5.cell? ⟨gX,3,none⟩=some (.slice AE xs.length cE):=hx5.cell 3;have y3f:w5.frozen? ⟨gX,3,none⟩=false:=hx5.frozen 3)|fail);have HX5:Hid (Blk (w5.setCell ⟨gX,3,none⟩ (.slice A5 (xs.length+1) c5)) gX 165 #[.int .u8 (dd.1:Int),.int .i64 (dd.2.1:Int),.int .i64 (dd.2.2:Int),.slice A5 (xs++ [k]).length c5]):=qh (by rw [List.length_append,List.length_singleton];exact hx5.set_ 3 _)
             have HE5:Hid (OwI (w5.setCell ⟨gX,3,none⟩ (.slice A5 (xs.length+1) c5)) (gX+1) (.slice A5 (xs++ [k]).length c5) (xs++ [k])):=qh (by
              rw [List.length_append,List.length_singleton];exact h5.set (λ e=>by have:=(World.ownsRow.lt h5 _ e).1;dsimp only at this;omega) _)
             have hB5:Below gX wr (w5.setCell ⟨gX,3,none⟩ (.slice A5 (xs.length+1) c5)):=(b5.mono (Nat.le_succ gX)).setCell (p:=⟨gX,3,none⟩) (Nat.le_refl _) _;have HO5:Hid (Ot wm.heap.size gX (.slice AO l.length cO) l (enW vs) (w5.setCell ⟨gX,3,none⟩ (.slice A5 (xs.length+1) c5))):=qh (HO.out.step hB5);have HB5:Hid (Below wm.heap.size wm (w5.setCell ⟨gX,3,none⟩ (.slice A5 (xs.length+1) c5))):=qh (HBm.out.trans (hB5.mono hHr));clear h5 b5 hx5 y3 y3f c3 c3f hB5 HX HE HO HBm;go_roundw
             case rel=>exact⟨k+1,A5,c5,xs++ [k],by go_num,by omega,HXS2,HX5,HE5,HO5,HB5⟩
             case measure=>simp [intOf];omega
           . rw [Bool.eq_false_iff.2 hsuf] at CE;have HXS2:Hid (xs=enP (wsL vs) (T.getD i []) (k+1)):=qh (by rw [zK9 (Bool.eq_false_iff.2 hsuf),HXS.out]);clear hsuf HXS c3 c3f;go_wp2_with (first|(refine CE.out.mono ?_;rintro e w' ⟨rfl,rfl⟩)|fail);go_roundw
             case rel=>exact⟨k+1,AE,cE,xs,by go_num,by omega,HXS2,HX,HE,HO,HBm⟩
             case measure=>simp [intOf];omega
         . obtain rfl:k=vs.length:=by omega
           have hew:enW vs l.length=xs:=by
            rw [HLL.out,HEW.out,HXS.out,<-jZ0,Zh9]
           obtain⟨c0,c1,c2⟩:=Blk.c3 HX.out;have HEW2:=qh hew;have hll4:l.length<=400:=(by rw [HLL.out];omega);have HE2:=qh (HE.out.more (Nat.le_succ gX));clear hlk hk hew HXS HE;go_wp2_with (first|(at_builtin;refine YY7 rfl (.tmp 140) (.tmp 142) rfl HO.out rfl dd.1 dd.2.1 dd.2.2 (.slice AE xs.length cE) xs HE2.out HEW2.out rfl (by omega) ?_;intro A5 c5 w5 h5 b5)|fail);have HO5:Hid (Ot wm.heap.size w5.heap.size (.slice A5 (l++ [(dd.1,dd.2.1,dd.2.2,(.slice AE xs.length cE:Value))]).length c5) (l++ [(dd.1,dd.2.1,dd.2.2,(.slice AE xs.length cE:Value))]) (enW vs) w5):=qh (by rw [List.length_append,List.length_singleton];exact h5);have hl5:l.length+1=(l++ [(dd.1,dd.2.1,dd.2.2,(.slice AE xs.length cE:Value))]).length:=by rw [List.length_append,List.length_singleton]
           have HL5:Hid (∀ k (hk:k<(l++ [(dd.1,dd.2.1,dd.2.2,(.slice AE xs.length cE:Value))]).length),((l++ [(dd.1,dd.2.1,dd.2.2,(.slice AE xs.length cE:Value))])[k].1,(l++ [(dd.1,dd.2.1,dd.2.2,(.slice AE xs.length cE:Value))])[k].2.1,(l++ [(dd.1,dd.2.1,dd.2.2,(.slice AE xs.length cE:Value))])[k].2.2.1)=D.getD k (0,0,0)):=qh λ k hk=>by
            by_cases e:k<l.length
            . rw [List.getElem_append_left e];exact HL.out k e
            . have e2:k=i:=(by rw [<-hl5,HLL.out] at hk;have:=HLL.out;omega);subst e2;have e3:=HLL.out;rw [List.getElem_append_right (by omega)];simp only [e3,Nat.sub_self,List.getElem_cons_zero];exact HDD.out.symm
           have HB5:Hid (Below wm.heap.size wm w5):=qh (HBm.out.trans b5);have hl6:(l++ [(dd.1,dd.2.1,dd.2.2,(.slice AE xs.length cE:Value))]).length=i+1:=(by rw [<-hl5,HLL.out]);rw [hl5];clear h5 b5 hl5 c0 c1 c2 c3 c3f HX HE2 HO HBm;go_wp2_with fail;go_roundw
           case rel=>exact⟨i+1,_,A5,c5,_,by go_num,rfl,by omega,hl6,HL5,HO5,HB5⟩
           case measure=>simp [intOf];omega
     . obtain rfl:i=T.length:=(by omega);have HTR:Hid (TreeM wr wr.heap.size AO D (enW vs)):=qh (HO.out.tree (by rw [HDL.out,hll]) HL.out);have HT4:=qh hT4;clear hlt hi hT4 hll;go_wp2_with fail;rw [HRE.out];refine⟨HB.out.trans (HBm.out.mono hwm),.inr ⟨by rw [<-HTE.out];exact HT4.out,AO,cO,by rw [<-HTE.out,<-HLL.out];rfl,by rw [<-HDE.out];exact HTR.out⟩⟩
end
end Go.Proofs.YtngepacmgabmaaaGreatDoor
