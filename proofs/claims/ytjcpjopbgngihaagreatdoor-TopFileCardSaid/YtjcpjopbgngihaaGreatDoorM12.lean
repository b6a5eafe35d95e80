/- Proved on the way: The document's May; What the document's Read answers. Each theorem states its own conditions. -/
import Derived.Test.YtjcpjopbgngihaaGreatDoorM9
set_option maxHeartbeats 16000000
set_option maxRecDepth 1000000
set_option linter.unusedSimpArgs false
section
namespace Go.Proofs.YtjcpjopbgngihaaGreatDoor.Fd
open Tryz
open Go.RowKit Go.Lib Fp
theorem zkX (A:Option Addr) (c:Nat) (l:List ByteArray) (w:World) (h:Seg w A l.length (sts l)) (hbig:l.length<=100000) :
    ∃b:Bool,(b=true↔May l)/\Calls prog 74 #[.slice A l.length c] w fun e w'=>e=.returned (.bool b)/\∃n,w'=w.drewN n:=by
 by_cases hm:∀i,i<l.length->OkAt l i
 · refine ⟨decide (l.length<=300),by rw[decide_eq_true_iff];exact ⟨fun h=>⟨h,hm⟩,fun h=>h.1⟩,?_⟩;have HS:=Lib.hid h;have HM:=Lib.hid hm;clear h hm;go_enter func74,ntmps74
   go_wp2;go_loopw [3] (fun i wr=>∃k n:Nat,k<=l.length/\i=.int .i64 k/\wr=w.drewN n) (fun i _=>l.length-(intOf i).toNat)
   case atStart=>exact ⟨0,0,Nat.zero_le _,rfl,rfl⟩
   case round=>
    obtain ⟨k,n,hk,rfl,rfl⟩:=hrel;by_cases hlt:k<l.length
    · obtain ⟨_,h1,h2,h3⟩:=HM.out k hlt;obtain ⟨ad,rfl,hc⟩:=HS.out.str hlt;by_cases h0:0<k
      · obtain ⟨ad',e,hc'⟩:=HS.out.str (k:=k-1) (by omega);cases e
        have h3':=h3 h0;have hi1:(0:Int)<=(k:Int)-1:=(by omega);have hi2:(k:Int)-1<(l.length:Int):=(by omega);clear h3;generalize l[k]=s at hc h1 h2 h3';generalize l[k-1]=p at hc' h3';have d1:decide ((s.size:Int)<1)=false:=dF (by omega);have d2:decide ((250:Int)<(s.size:Int))=false:=dF (by omega);have d3:decide ((0:Int)<(k:Int))=true:=dT (by omega);go_wp2;go_quiet (fail)
        go_wp2;go_roundw
        case rel=>exact ⟨k+1,_,by omega,by go_num,rfl⟩
        case measure=>simp[intOf];omega
      · clear h3;have hd:decide ((0:Int)<(k:Int))=false:=dF (by omega);generalize l[k]=s at hc h1 h2;have d1:decide ((s.size:Int)<1)=false:=dF (by omega);have d2:decide ((250:Int)<(s.size:Int))=false:=dF (by omega);go_wp2;go_quiet (fail)
        go_wp2;go_roundw
        case rel=>exact ⟨k+1,_,by omega,by go_num,rfl⟩
        case measure=>simp[intOf];omega
    · go_wp2;go_ret;exact ⟨by simp<;>omega,_,rfl⟩
 · refine ⟨false,⟨fun h=>(by cases h),fun h=>absurd h.2 hm⟩,?_⟩;have HS:=Lib.hid h;have HM:=Lib.hid hm;clear h hm;go_enter func74,ntmps74
   go_wp2;go_loopw [3] (fun i wr=>∃k n:Nat,k<=l.length/\i=.int .i64 k/\wr=w.drewN n/\Hid (∀j,j<k->OkAt l j)) (fun i _=>l.length-(intOf i).toNat)
   case atStart=>exact ⟨0,0,Nat.zero_le _,rfl,rfl,fun j hj=>by omega⟩
   case round=>
    obtain ⟨k,n,hk,rfl,rfl,HK⟩:=hrel;by_cases hlt:k<l.length
    · obtain ⟨ad,rfl,hc⟩:=HS.out.str hlt;by_cases h1:1<=l[k].size
      · by_cases h2:l[k].size<=250
        · by_cases h0:0<k
          · obtain ⟨ad',e,hc'⟩:=HS.out.str (k:=k-1) (by omega);cases e
            have hi1:(0:Int)<=(k:Int)-1:=(by omega);have hi2:(k:Int)-1<(l.length:Int):=(by omega);have d3:decide ((0:Int)<(k:Int))=true:=dT (by omega);cases h3:Op.bytesLess l[k-1].toList l[k].toList
            · generalize l[k]=s at hc h1 h2 h3;generalize l[k-1]=p at hc' h3;have d1:decide ((s.size:Int)<1)=false:=dF (by omega);have d2:decide ((250:Int)<(s.size:Int))=false:=dF (by omega);go_wp2;go_quiet (fail)
              go_wp2;go_ret;exact ⟨rfl,_,World.drewN_drewN ..⟩
            · have HK2:Hid (∀j,j<k+1->OkAt l j):=fun j hj=>by
               rcases Nat.lt_or_ge j k with h4 | h4
               · exact HK.out j h4
               · obtain rfl:j=k:=(by omega);exact ⟨hlt,h1,h2,fun _=>h3⟩
              generalize l[k]=s at hc h1 h2 h3;generalize l[k-1]=p at hc' h3;have d1:decide ((s.size:Int)<1)=false:=dF (by omega);have d2:decide ((250:Int)<(s.size:Int))=false:=dF (by omega);go_wp2;go_quiet (fail)
              go_wp2;go_roundw
              case rel=>exact ⟨k+1,_,by omega,by go_num,rfl,HK2⟩
              case measure=>simp[intOf];omega
          · have HK2:Hid (∀j,j<k+1->OkAt l j):=fun j hj=>by
             rcases Nat.lt_or_ge j k with h4 | h4
             · exact HK.out j h4
             · obtain rfl:j=k:=(by omega);exact ⟨hlt,h1,h2,fun h=>absurd h h0⟩
            have hd:decide ((0:Int)<(k:Int))=false:=dF (by omega);generalize l[k]=s at hc h1 h2;have d1:decide ((s.size:Int)<1)=false:=dF (by omega);have d2:decide ((250:Int)<(s.size:Int))=false:=dF (by omega);go_wp2;go_quiet (fail)
            go_wp2;go_roundw
            case rel=>exact ⟨k+1,_,by omega,by go_num,rfl,HK2⟩
            case measure=>simp[intOf];omega
        · generalize l[k]=s at hc h1 h2;have d1:decide ((s.size:Int)<1)=false:=dF (by omega);have d2:decide ((250:Int)<(s.size:Int))=true:=dT (by omega);go_wp2;go_quiet (fail)
          go_wp2;go_ret;exact ⟨rfl,_,World.drewN_drewN ..⟩
      · generalize l[k]=s at hc h1;have d1:decide ((s.size:Int)<1)=true:=dT (by omega);go_wp2;go_quiet (fail)
        go_wp2;go_ret;exact ⟨rfl,_,World.drewN_drewN ..⟩
    · exact absurd (fun i hi=>HK.out i (by omega)) HM.out
end Go.Proofs.YtjcpjopbgngihaaGreatDoor.Fd
end
section
namespace Go.Proofs.YtjcpjopbgngihaaGreatDoor.Fd
open Tryz
open Go.RowKit Go.Lib Fp
open Go.Proofs.YtjcpjopbgngihaaGreatDoorW.PrintLast
theorem zbC {m:Sem Value} {P:Program} {v:Value} {w w':World} (h:m.run P w=.ok v w'):(Next.value <$> m).run P w=.ok (.value v) w':=by
 simp[h,Result.andThen]
theorem zdl (x:UInt8):x.toNat<=255:=by have:=x.toNat_lt;omega
def RefsAs (w:World) (b:List UInt8) (e:Ending) (w':World):Prop:=
 ((∃l A c,Rd b l/\e=.returned (.tuple #[.slice A l.length c,.int .i64 0])/\Seg w' A l.length (sts l))\/((¬∃l,Rd b l)/\e=.returned (.tuple #[.slice none 0 0,.int .i64 2])))/\Below w.heap.size w w'
theorem RefsAs.no {w w':World} {b:List UInt8} {e:Ending} (h:¬∃l,Rd b l) (hb:Below w.heap.size w w') (he:e=.returned (.tuple #[.slice none 0 0,.int .i64 2])):RefsAs w b e w':=⟨.inr ⟨h,he⟩,hb⟩
theorem zfz (A:Option Addr) (c:Nat) (b:List UInt8) (w:World) (h2:b.length<2) :
    Calls prog 25 #[.slice A b.length c] w (RefsAs w b):=by
 have HN:Hid (¬∃l,Rd b l):=ziA h2;go_enter func25,ntmps25
 go_wp2;go_ret2;exact RefsAs.no HN.out br rfl
theorem zbJ {W:World} {ad:Addr} {b:List UInt8} (h:Seg W (some ad) b.length (bys b)) (o cv:Nat) (ho:o+cv<=b.length) :
    Seg W (some (ad.add o)) cv (bys ((b.drop o).take cv)):=by
 have hl:((b.drop o).take cv).length=cv:=(by rw[List.length_take,List.length_drop];omega);refine ⟨by rw[zbo,hl],fun _=>⟨_,rfl,fun j u hu=>?_⟩⟩;have hj:j<cv:=(by have:=(List.getElem?_eq_some_iff.1 hu).1;rwa[zbo,hl]at this);obtain ⟨ad',e,hc⟩:=h.byte (k:=o+j) (by omega);cases e
 rw[Addr.add_add,hc,<-hu];unfold bys;rw[List.getElem?_map,List.getElem?_take_of_lt hj,List.getElem?_drop,List.getElem?_eq_getElem (by omega)];rfl
theorem zgr (ad:Addr) (c:Nat) (b:List UInt8) (w:World) (hs:Seg w (some ad) b.length (bys b)) (h2:2<=b.length) (hbig:b.length<=80000) (hc:b.length<=c) :
    Calls prog 25 #[.slice (some ad) b.length c] w (RefsAs w b):=by
 have HCC:Hid (∀W,Below w.heap.size w W->∀j (hj:j<b.length),W.cell? (ad.add j)=some (.int .u8 (b[j].toNat:Int))):=fun W hW j hj=>by
  obtain ⟨ad,e,h⟩:=(hs.below hW).byte hj;cases e
  exact h
 obtain ⟨b0,hb0⟩:∃x:Nat,b[0].toNat=x:=⟨_,rfl⟩;obtain ⟨b1,hb1⟩:∃x:Nat,b[1].toNat=x:=⟨_,rfl⟩;have l0:b0<=255:=hb0 ▸ zdl _;have l1:b1<=255:=hb1 ▸ zdl _;have k0:=HCC.out w br 0 (by omega);have k1:=HCC.out w br 1 (by omega);rw[hb0,Addr.add_zero']at k0;rw[hb1]at k1;have k1':=k1;rw[show ad.add 1={ ad with off:=ad.off+(0+1),spot:=none } from Addr.add_succ' ad 0]at k1';have k1'':=k1';rw[Nat.zero_add]at k1'';obtain ⟨n,hn⟩:∃n:Nat,b0*256+b1=n:=⟨_,rfl⟩;have hnn:n<=65535:=(by omega);have HDEC:Hid (decB b=(decN n [] (b.drop 2)).map (·.1)):=by
  have:=zlI h2;rw[hb0,hb1,hn]at this;exact this
 have HS:=Lib.hid hs;have hor:bits .or .i64 ((b0:Int)*256) (b1:Int)=(n:Int):=by
  rw[bits_join .i64 31 (by decide) (fun n h0 h1=>wI (by omega)) 8 _ _ (by omega) (by omega) (by omega) (by omega) (by omega) (by omega)];omega
 clear hs hb0 hb1;go_enter func25,ntmps25
 go_wp2;go_quiet (fail)
 go_wp2;clear k0 k1 k1' k1'' hor;go_loopw [5,6,7,8] (fun v5 v6 v7 v8 wr=>∃(k off:Nat) (L:List ByteArray) (last:ByteArray),k<=n/\v8=.int .i64 k/\v7=.string last/\last.size<=510/\v6=.int .i64 off/\off<=b.length/\Hid (RSt b n k off L last)/\wr.ownsRow w.heap.size 9 1 v5 k (sts L)/\Below w.heap.size w wr) (fun _ _ _ v8 _=>n-(intOf v8).toNat)
 case atStart=>exact ⟨0,2,[],⟨#[]⟩,Nat.zero_le _,rfl,rfl,by decide,rfl,h2,RSt.start b n,World.ownsRow_nil _ _ _ _,below_drewN' br _⟩
 case round=>
  obtain ⟨k,off,L,last,hk,rfl,rfl,hl510,rfl,hob,HR,hown,hB⟩:=hrel;by_cases hlt:k<n
  · by_cases hm2:off+2<=b.length
    · have hstep:=zkj (last:=last.data.toList) (b:=b) (off:=off) (by omega);have k2:=HCC.out wr hB off (by omega);have k3:=HCC.out wr hB (off+1) (by omega);have la:=zdl b[off];have lc:=zdl b[off+1];have hll:last.data.toList.length=last.size:=Array.length_toList;rw[hll]at hstep;clear hll;generalize b[off].toNat=av at hstep k2 la;have k3y:=fun W (hW:Below w.heap.size w W)=>HCC.out W hW (off+1) (by omega);generalize b[off+1].toNat=cv at hstep k3 lc k3y;have K3Y:=Lib.hid k3y;clear k3y;have k3':=k3;rw[Addr.add_succ']at k3';by_cases ha:av<=last.size
      · by_cases hcv:off+2+cv<=b.length
        · rw[if_pos ⟨ha,by omega⟩]at hstep;obtain ⟨s2,hs2⟩:∃s2:ByteArray,str ((b.drop (off+2)).take cv)=s2:=⟨_,rfl⟩;obtain ⟨s1,hs1⟩:∃s1,last.extract 0 av=s1:=⟨_,rfl⟩;have hs1d:s1.data.toList=last.data.toList.take av:=(by rw[<-hs1];exact zc4 last av);have hs2d:s2.data.toList=(b.drop (off+2)).take cv:=(by rw[<-hs2,zae]);have HR2:Hid (RSt b n (k+1) (off+2+cv) (L++[s1++s2]) (s1++s2)):=HR.out.next hlt (by rw[hstep,ByteArray.data_append,Array.toList_append,hs1d,hs2d]);have hz1:s1.size<=255:=by
           have h:=congrArg List.length hs1d;rw[Array.length_toList,List.length_take]at h;have h':s1.size=min av last.data.toList.length:=h;omega
          have hz2:s2.size<=255:=by
           have h:=congrArg List.length hs2d;rw[Array.length_toList,List.length_take]at h;have h':s2.size=min cv (b.drop (off+2)).length:=h;omega
          have hcat:(9223372036854775807<s1.size+s2.size)=False:=eq_false (by omega);have hcv1:∀nq,(convert 22 9 (.slice (some { ad with off:=ad.off+(off+2),spot:=none }) cv (c-(off+2)))).run prog (wr.drewN nq)=.ok (.string s2) (wr.drewN nq):=fun nq=>by
           rw[<-hs2,<-Addr.add_succ' ad (off+1)];exact zaG _ _ _ _ _ (zbJ (HS.out.below (below_drewN' hB nq)) (off+2) cv (by omega))
          have hcv0:cv=0->∀nq,(convert 22 9 (.slice (some ad) 0 0)).run prog (wr.drewN nq)=.ok (.string s2) (wr.drewN nq):=fun h0 nq=>by
           rw[<-hs2,h0];have:=zaG _ _ _ 0 _ (zbJ (HS.out.below (below_drewN' hB nq)) 0 0 (by omega));rw[Addr.add_zero']at this;simpa using this
          have f1:(0:Int)<=(off:Int)+2:=(by omega);have f2:(off:Int)+2<=(off:Int)+2+(cv:Int):=(by omega);have f3:(off:Int)+2+(cv:Int)<=(b.length:Int):=(by omega);have f3':(off:Int)+2+(cv:Int)<=(c:Int):=(by omega);have f4:(0:Int)<=(off:Int)+1:=(by omega);have f5:(off:Int)+1<(b.length:Int):=(by omega);have f6:((off:Int)+2).toNat=off+2:=(by omega);have f7:((off:Int)+1).toNat=off+1:=(by omega);have f8:((off:Int)+2+(cv:Int)).toNat=off+2+cv:=(by omega);have E1:Hid (IntKind.i64.wrap ((off:Int)+2)=(off:Int)+2):=(by show IntKind.i64.wrap ((off:Int)+2)=_;rw[IntKind.wrap_i64];omega);have E2:Hid (IntKind.i64.wrap ((off:Int)+1)=(off:Int)+1):=(by show IntKind.i64.wrap ((off:Int)+1)=_;rw[IntKind.wrap_i64];omega);have E3:Hid (IntKind.i64.wrap ((off:Int)+2+(cv:Int))=(off:Int)+2+(cv:Int)):=(by show IntKind.i64.wrap ((off:Int)+2+(cv:Int))=_;rw[IntKind.wrap_i64];omega);have HO0:=Lib.hid hown;have HB0:=Lib.hid hB;have hrs:=hB.size;clear hstep hs1d hs2d hs2 hown hB;obtain ⟨i0,hi,hz0,hz1',hz2'⟩:=info_parts info9;have hcases:(c=off+2/\cv=0)\/¬c=off+2:=(by omega);rcases hcases with ⟨rfl,rfl⟩ | hc2
          · have hcv:=hcv0 rfl;have e1:=E1.out;have e2:=E2.out;have e3:=E3.out;clear E1 E2 E3 hcv0 hcv1;go_wp2;go_quiet (fail)
            clear hcv e1 e2 e3;rename_i nq;have HOWN:Hid ((wr.drewN nq).ownsRow w.heap.size 9 1 u5 k (sts L)):=HO0.out.drewFd nq;have HBW:Hid (Below w.heap.size w (wr.drewN nq)):=below_drewN' HB0.out nq;have hWs:w.heap.size<=(wr.drewN nq).heap.size:=HBW.out.size;have k3w:(wr.drewN nq).cell? (ad.add (off+1))=some (.int .u8 (0:Int)):=k3;generalize wr.drewN nq=W at HOWN HBW hWs k3w ⊢;go_wp2_with (at_builtin;refine wpList_append_own _ rfl (.tmp 78) (.tmp 80) 41 rfl w.heap.size 9 i0 (.string ByteArray.empty) 1 16 underlying41 hi hz0 hz1' hz2' rfl (by decide) _ k (sts L) rfl (HOWN.out.alloc _) ⟨W.heap.size,0,none⟩ 1 1 [.string (s1++s2)] rfl rfl ?c1 ?c2 ?c3 ?c4 ?c5 ?_)
            case c1=>exact fun j u hj=>by rw[add_zero'];exact zbh W _ 9 j u hj
            case c2=>intro u hu;simp at hu;rcases hu with rfl;rfl
            case c3=>unfold maxLen;omega
            case c4=>omega
            case c5=>simp;omega
            intro v1 w1 hown1 hg1 _;have hB1:Below w.heap.size w w1:=(HBW.out.alloc hWs _).grown hg1 (by simp;omega) (fun j hj=>(HOWN.out.lt j hj).1);have hown2:w1.ownsRow w.heap.size 9 1 v1 (k+1) (sts (L++[s1++s2])):=by
             have e:sts (L++[s1++s2])=sts L++[.string (s1++s2)]:=(by unfold sts;rw[List.map_append];rfl);rw[e];exact hown1
            skip
            have HOWN2:=Lib.hid hown2;have HB1:=Lib.hid hB1;clear hown1 hg1 hown2 hB1 k3w;have k3x:w1.cell? (ad.add (off+1))=some (.int .u8 (0:Int)):=K3Y.out w1 HB1.out;have k3z:=k3x;rw[Addr.add_succ']at k3z;clear f1 f2 f3 f3' f6 f8;go_wp2;go_roundw
            case rel=>exact ⟨k+1,off+2+0,L++[s1++s2],s1++s2,by omega,by go_num,rfl,by rw[ByteArray.size_append];omega,by go_num,by omega,HR2,HOWN2.out,HB1.out⟩
            case measure=>simp[intOf];omega
          · have hcv:=hcv1;have e1:=E1.out;have e2:=E2.out;have e3:=E3.out;clear E1 E2 E3 hcv0 hcv1;go_wp2;go_quiet (fail)
            clear hcv e1 e2 e3;rename_i nq;have HOWN:Hid ((wr.drewN nq).ownsRow w.heap.size 9 1 u5 k (sts L)):=HO0.out.drewFd nq;have HBW:Hid (Below w.heap.size w (wr.drewN nq)):=below_drewN' HB0.out nq;have hWs:w.heap.size<=(wr.drewN nq).heap.size:=HBW.out.size;have k3w:(wr.drewN nq).cell? (ad.add (off+1))=some (.int .u8 (cv:Int)):=k3;generalize wr.drewN nq=W at HOWN HBW hWs k3w ⊢;go_wp2_with (at_builtin;refine wpList_append_own _ rfl (.tmp 78) (.tmp 80) 41 rfl w.heap.size 9 i0 (.string ByteArray.empty) 1 16 underlying41 hi hz0 hz1' hz2' rfl (by decide) _ k (sts L) rfl (HOWN.out.alloc _) ⟨W.heap.size,0,none⟩ 1 1 [.string (s1++s2)] rfl rfl ?c1 ?c2 ?c3 ?c4 ?c5 ?_)
            case c1=>exact fun j u hj=>by rw[add_zero'];exact zbh W _ 9 j u hj
            case c2=>intro u hu;simp at hu;rcases hu with rfl;rfl
            case c3=>unfold maxLen;omega
            case c4=>omega
            case c5=>simp;omega
            intro v1 w1 hown1 hg1 _;have hB1:Below w.heap.size w w1:=(HBW.out.alloc hWs _).grown hg1 (by simp;omega) (fun j hj=>(HOWN.out.lt j hj).1);have hown2:w1.ownsRow w.heap.size 9 1 v1 (k+1) (sts (L++[s1++s2])):=by
             have e:sts (L++[s1++s2])=sts L++[.string (s1++s2)]:=(by unfold sts;rw[List.map_append];rfl);rw[e];exact hown1
            skip
            have HOWN2:=Lib.hid hown2;have HB1:=Lib.hid hB1;clear hown1 hg1 hown2 hB1 k3w;have k3x:w1.cell? (ad.add (off+1))=some (.int .u8 (cv:Int)):=K3Y.out w1 HB1.out;have k3z:=k3x;rw[Addr.add_succ']at k3z;clear f1 f2 f3 f3' f6 f8;go_wp2;go_roundw
            case rel=>exact ⟨k+1,off+2+cv,L++[s1++s2],s1++s2,by omega,by go_num,rfl,by rw[ByteArray.size_append];omega,by go_num,by omega,HR2,HOWN2.out,HB1.out⟩
            case measure=>simp[intOf];omega
        · rw[if_neg (by omega)]at hstep;have HN:Hid (¬∃l,Rd b l):=zb7 (by rw[HDEC.out,HR.out.fail hlt hstep];rfl);have HB:=Lib.hid hB;clear hown hB hstep;go_wp2;go_ret2;exact RefsAs.no HN.out HB.out rfl
      · rw[if_neg (by omega)]at hstep;have HN:Hid (¬∃l,Rd b l):=zb7 (by rw[HDEC.out,HR.out.fail hlt hstep];rfl);have HB:=Lib.hid hB;clear hown hB hstep;go_wp2;go_ret2;exact RefsAs.no HN.out HB.out rfl
    · have HN:Hid (¬∃l,Rd b l):=zb7 (by rw[HDEC.out,HR.out.fail hlt (zeP (by rw[List.length_drop];omega))];rfl);have HB:=Lib.hid hB;clear hown hB;go_wp2;go_ret2;exact RefsAs.no HN.out HB.out rfl
  · obtain rfl:k=n:=(by omega);obtain ⟨A5,c5,rfl⟩:=zac hown;have hLn:=HR.out.len;have HD2:Hid (decB b=some (tx L)):=by
     show decB b=some (tx L);rw[HDEC.out,HR.out.done];rfl
    have hseg:Seg wr A5 L.length (sts L):=(by rw[hLn];exact Seg.of_own hown);have hmc:=fun W (h:Seg W A5 L.length (sts L))=>zkX A5 c5 L W h (by omega);have HBX:=Lib.hid hB;have HSG:=Lib.hid hseg;have HCB:Hid (∀W,Below w.heap.size w W->(convert 22 9 (.slice (some ad) b.length c)).run prog W=.ok (.string (str b)) W):=fun W hW=>zaG _ _ _ _ _ (HS.out.below hW);clear hown hB hseg;by_cases hm:May L
    · have HMAY:Hid (∀W,Seg W A5 L.length (sts L)->Calls prog 74 #[.slice A5 k c5] W fun e w'=>e=.returned (.bool true)/\∃n,w'=W.drewN n):=fun W h=>by
       obtain ⟨bb,h1,h2⟩:=hmc W h;obtain rfl:bb=true:=h1.2 hm;rw[<-hLn];exact h2
      have HBY:Hid (∀W,Seg W A5 L.length (sts L)->Calls prog 75 #[.slice A5 k c5] W fun e w'=>∃A n c,e=.returned (.slice A n c)/\Seg w' A n (bys (enc (tx L)))/\Below W.heap.size W w'/\(convert 22 9 (.slice A n c)).run prog w'=.ok (.string (str (enc (tx L)))) w'):=fun W h=>by
       rw[<-hLn];exact zhC A5 c5 L W h hm
      by_cases hE:enc (tx L)=b
      · have HRD:Hid (Rd b L):=⟨hm,hE⟩;have hEq:((str (enc (tx L))).toList == (str b).toList)=true:=(by rw[hE];exact beq_self_eq_true _);have HLN:=Lib.hid hLn;clear hE hm hmc hLn;generalize str (enc (tx L))=sE at hEq HBY;generalize str b=sB at hEq HCB;go_wp2_with fail
        refine zbI (n:=11) (S:=fun w'=>True) (ds:=[]) #[false,false,false,false,false,false,false,false,false,false,false] (by kernel_rfl) rfl rfl trivial (fun _=>?_);refine pU 0 ?_;refine oN 1 (fun K hK=>?_);refine cL func74 #[.slice A5 k c5] ?_;refine (HMAY.out _ (HSG.out.below br.drew)).mono ?_;rintro e w' ⟨rfl,q1,rfl⟩;refine ⟨_,rfl,?_⟩;refine oU hK trivial (fun _=>?_);clear hK K;refine pU 2 ?_;refine pU 3 ?_;refine pU 4 ?_;refine pU 7 ?_;refine tW 5 8 (fun K hK=>?_) (fun K hK=>?_)
        · skip
          refine cL func75 #[.slice A5 k c5] ?_;refine (HBY.out _ ((HSG.out.below br.drew).drewN _)).mono ?_;rintro e w' ⟨A6,n6,c6,rfl,_,hb6,hv6⟩;refine ⟨_,rfl,?_⟩;have HV6:=Lib.hid hv6;have HB6:=Lib.hid hb6;clear hb6 hv6;refine oU hK trivial (fun _=>?_);clear hK K;refine tW 6 8 (fun K hK=>?_) (fun K hK=>?_)
          · skip
            refine zbc (by rfl) rfl (v:=.string sE) (w1:=_) (by unfold execOp;simp only[Act.eval];exact zbC (HV6.out)) ?_;refine oU hK trivial (fun _=>?_);clear hK K;refine oN 8 (fun K hK=>?_);refine zbc (by rfl) rfl (v:=.string sB) (w1:=_) (by unfold execOp;simp only[Act.eval];exact zbC (HCB.out _ (thn (below_drewN' HBX.out.drew q1) HB6.out))) ?_;refine oU hK trivial (fun _=>?_);clear hK K;refine pU 9 ?_;refine pU 10 ?_;refine done_ (by kernel_rfl) ?_;have HBE:=Lib.hid (thn (below_drewN' HBX.out.drew q1) HB6.out);have HSE:=Lib.hid (((HSG.out.below br.drew).drewN q1).below HB6.out);go_wp2;go_ret2;exact ⟨.inl ⟨L,A5,c5,HRD.out,by rw[HLN.out];rfl,HSE.out⟩,HBE.out⟩
          · skip
            refine zbc (by rfl) rfl (v:=.string sB) (w1:=_) (by unfold execOp;simp only[Act.eval];exact zbC (HCB.out _ (thn (below_drewN' HBX.out.drew q1) HB6.out))) ?_;refine oU hK trivial (fun _=>?_);clear hK K;refine oN 6 (fun K hK=>?_);refine zbc (by rfl) rfl (v:=.string sE) (w1:=_) (by unfold execOp;simp only[Act.eval];exact zbC (HV6.out)) ?_;refine oU hK trivial (fun _=>?_);clear hK K;refine pU 9 ?_;refine pU 10 ?_;refine done_ (by kernel_rfl) ?_;have HBE:=Lib.hid (thn (below_drewN' HBX.out.drew q1) HB6.out);have HSE:=Lib.hid (((HSG.out.below br.drew).drewN q1).below HB6.out);go_wp2;go_ret2;exact ⟨.inl ⟨L,A5,c5,HRD.out,by rw[HLN.out];rfl,HSE.out⟩,HBE.out⟩
        · skip
          refine zbc (by rfl) rfl (v:=.string sB) (w1:=_) (by unfold execOp;simp only[Act.eval];exact zbC (HCB.out _ (below_drewN' HBX.out.drew q1))) ?_;refine oU hK trivial (fun _=>?_);clear hK K;refine oN 5 (fun K hK=>?_);refine cL func75 #[.slice A5 k c5] ?_;refine (HBY.out _ ((HSG.out.below br.drew).drewN _)).mono ?_;rintro e w' ⟨A6,n6,c6,rfl,_,hb6,hv6⟩;refine ⟨_,rfl,?_⟩;have HV6:=Lib.hid hv6;have HB6:=Lib.hid hb6;clear hb6 hv6;refine oU hK trivial (fun _=>?_);clear hK K;refine oN 6 (fun K hK=>?_);refine zbc (by rfl) rfl (v:=.string sE) (w1:=_) (by unfold execOp;simp only[Act.eval];exact zbC (HV6.out)) ?_;refine oU hK trivial (fun _=>?_);clear hK K;refine pU 9 ?_;refine pU 10 ?_;refine done_ (by kernel_rfl) ?_;have HBE:=Lib.hid (thn (below_drewN' HBX.out.drew q1) HB6.out);have HSE:=Lib.hid (((HSG.out.below br.drew).drewN q1).below HB6.out);go_wp2;go_ret2;exact ⟨.inl ⟨L,A5,c5,HRD.out,by rw[HLN.out];rfl,HSE.out⟩,HBE.out⟩
      · have HNO:Hid (¬∃l,Rd b l):=rd_some HD2.out (fun h=>hE h.2);have hEq:((str (enc (tx L))).toList == (str b).toList)=false:=by
         rw[Bool.eq_false_iff];intro h;rw[zkg,zae,zae]at h;exact hE h
        clear hE hm hmc hLn;generalize str (enc (tx L))=sE at hEq HBY;generalize str b=sB at hEq HCB;go_wp2_with fail
        refine zbI (n:=11) (S:=fun w'=>True) (ds:=[]) #[false,false,false,false,false,false,false,false,false,false,false] (by kernel_rfl) rfl rfl trivial (fun _=>?_);refine pU 0 ?_;refine oN 1 (fun K hK=>?_);refine cL func74 #[.slice A5 k c5] ?_;refine (HMAY.out _ (HSG.out.below br.drew)).mono ?_;rintro e w' ⟨rfl,q1,rfl⟩;refine ⟨_,rfl,?_⟩;refine oU hK trivial (fun _=>?_);clear hK K;refine pU 2 ?_;refine pU 3 ?_;refine pU 4 ?_;refine pU 7 ?_;refine tW 5 8 (fun K hK=>?_) (fun K hK=>?_)
        · skip
          refine cL func75 #[.slice A5 k c5] ?_;refine (HBY.out _ ((HSG.out.below br.drew).drewN _)).mono ?_;rintro e w' ⟨A6,n6,c6,rfl,_,hb6,hv6⟩;refine ⟨_,rfl,?_⟩;have HV6:=Lib.hid hv6;have HB6:=Lib.hid hb6;clear hb6 hv6;refine oU hK trivial (fun _=>?_);clear hK K;refine tW 6 8 (fun K hK=>?_) (fun K hK=>?_)
          · skip
            refine zbc (by rfl) rfl (v:=.string sE) (w1:=_) (by unfold execOp;simp only[Act.eval];exact zbC (HV6.out)) ?_;refine oU hK trivial (fun _=>?_);clear hK K;refine oN 8 (fun K hK=>?_);refine zbc (by rfl) rfl (v:=.string sB) (w1:=_) (by unfold execOp;simp only[Act.eval];exact zbC (HCB.out _ (thn (below_drewN' HBX.out.drew q1) HB6.out))) ?_;refine oU hK trivial (fun _=>?_);clear hK K;refine pU 9 ?_;refine pU 10 ?_;refine done_ (by kernel_rfl) ?_;have HBE:=Lib.hid (thn (below_drewN' HBX.out.drew q1) HB6.out);have HSE:=Lib.hid (((HSG.out.below br.drew).drewN q1).below HB6.out);go_wp2;go_ret2;exact RefsAs.no HNO.out HBE.out rfl
          · skip
            refine zbc (by rfl) rfl (v:=.string sB) (w1:=_) (by unfold execOp;simp only[Act.eval];exact zbC (HCB.out _ (thn (below_drewN' HBX.out.drew q1) HB6.out))) ?_;refine oU hK trivial (fun _=>?_);clear hK K;refine oN 6 (fun K hK=>?_);refine zbc (by rfl) rfl (v:=.string sE) (w1:=_) (by unfold execOp;simp only[Act.eval];exact zbC (HV6.out)) ?_;refine oU hK trivial (fun _=>?_);clear hK K;refine pU 9 ?_;refine pU 10 ?_;refine done_ (by kernel_rfl) ?_;have HBE:=Lib.hid (thn (below_drewN' HBX.out.drew q1) HB6.out);have HSE:=Lib.hid (((HSG.out.below br.drew).drewN q1).below HB6.out);go_wp2;go_ret2;exact RefsAs.no HNO.out HBE.out rfl
        · skip
          refine zbc (by rfl) rfl (v:=.string sB) (w1:=_) (by unfold execOp;simp only[Act.eval];exact zbC (HCB.out _ (below_drewN' HBX.out.drew q1))) ?_;refine oU hK trivial (fun _=>?_);clear hK K;refine oN 5 (fun K hK=>?_);refine cL func75 #[.slice A5 k c5] ?_;refine (HBY.out _ ((HSG.out.below br.drew).drewN _)).mono ?_;rintro e w' ⟨A6,n6,c6,rfl,_,hb6,hv6⟩;refine ⟨_,rfl,?_⟩;have HV6:=Lib.hid hv6;have HB6:=Lib.hid hb6;clear hb6 hv6;refine oU hK trivial (fun _=>?_);clear hK K;refine oN 6 (fun K hK=>?_);refine zbc (by rfl) rfl (v:=.string sE) (w1:=_) (by unfold execOp;simp only[Act.eval];exact zbC (HV6.out)) ?_;refine oU hK trivial (fun _=>?_);clear hK K;refine pU 9 ?_;refine pU 10 ?_;refine done_ (by kernel_rfl) ?_;have HBE:=Lib.hid (thn (below_drewN' HBX.out.drew q1) HB6.out);have HSE:=Lib.hid (((HSG.out.below br.drew).drewN q1).below HB6.out);go_wp2;go_ret2;exact RefsAs.no HNO.out HBE.out rfl
    · have HMAY:Hid (∀W,Seg W A5 L.length (sts L)->Calls prog 74 #[.slice A5 k c5] W fun e w'=>e=.returned (.bool false)/\∃n,w'=W.drewN n):=fun W h=>by
       obtain ⟨bb,h1,h2⟩:=hmc W h;obtain rfl:bb=false:=by
        cases bb
        · rfl
        · exact absurd (h1.1 rfl) hm
       rw[<-hLn];exact h2
      have HNO:Hid (¬∃l,Rd b l):=rd_some HD2.out (fun h=>hm h.1);clear hm hmc hLn HCB;go_wp2_with fail
      refine zbI (n:=11) (S:=fun w'=>True) (ds:=[]) #[false,false,false,false,false,false,false,false,false,false,false] (by kernel_rfl) rfl rfl trivial (fun _=>?_);refine pU 0 ?_;refine oN 1 (fun K hK=>?_);refine cL func74 #[.slice A5 k c5] ?_;refine (HMAY.out _ (HSG.out.below br.drew)).mono ?_;rintro e w' ⟨rfl,q1,rfl⟩;refine ⟨_,rfl,?_⟩;refine oU hK trivial (fun _=>?_);clear hK K;refine pU 2 ?_;refine pU 3 ?_;refine pS 4 ?_;refine pS 5 ?_;refine pS 6 ?_;refine pS 7 ?_;refine pS 8 ?_;refine pS 9 ?_;refine pU 10 ?_;refine done_ (by kernel_rfl) ?_;have HBE:=Lib.hid (below_drewN' HBX.out.drew q1);go_wp2;go_ret2;exact RefsAs.no HNO.out HBE.out rfl
end Go.Proofs.YtjcpjopbgngihaaGreatDoor.Fd
end
