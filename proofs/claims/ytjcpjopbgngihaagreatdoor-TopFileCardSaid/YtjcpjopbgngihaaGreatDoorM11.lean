/- Proved on the way: What Read answers. Each theorem states its own conditions. -/
import Derived.Test.YtjcpjopbgngihaaGreatDoorM9
set_option maxHeartbeats 16000000
set_option maxRecDepth 1000000
set_option linter.unusedSimpArgs false
section
namespace Go.Proofs.YtjcpjopbgngihaaGreatDoor.Fd
open Tryz
open Go.RowKit Go.Lib Fp
open Go.Proofs.YtjcpjopbgngihaaGreatDoorW.PrintLast
section
attribute [local go_sem ↓] Go.wp_at_zero Go.wp_at_succ
theorem zdd {W:World} {blk:Nat} {b:List UInt8} (h:∀j (hj:j<b.length),W.cell? ⟨blk,j,none⟩=some (.int .u8 (b[j].toNat:Int))) (o cv:Nat) (ho:o+cv<=b.length) :
    Seg W (some ⟨blk,o,none⟩) cv (bys ((b.drop o).take cv)):=by
 have hl:((b.drop o).take cv).length=cv:=(by rw[List.length_take,List.length_drop];omega);refine ⟨by rw[zbo,hl],fun _=>⟨_,rfl,fun j u hu=>?_⟩⟩;have hj:j<cv:=(by have:=(List.getElem?_eq_some_iff.1 hu).1;rwa[zbo,hl]at this);rw[Addr.add_lit,h (o+j) (by omega),<-hu];unfold bys;rw[List.getElem?_map,List.getElem?_take_of_lt hj,List.getElem?_drop,List.getElem?_eq_getElem (by omega)];rfl
theorem zfT (x:UInt8):x.toNat<=255:=by have:=x.toNat_lt;omega
theorem beq_calls (v1 v2:Value) (s t:ByteArray) (w:World) (h1:(convert 22 9 v1).run prog w=.ok (.string s) w) (h2:(convert 22 9 v2).run prog w=.ok (.string t) w) (r:Bool) (hr:(s.toList == t.toList)=r) :
    Calls prog 23 #[v1,v2] w fun e w'=>e=.returned (.bool r)/\w=w':=by
 go_enter func23,ntmps23
 go_wp2;go_ret;exact ⟨rfl,rfl⟩
def ReadsAs (w:World) (b:List UInt8) (e:Ending) (w':World):Prop:=
 ((∃l g,Rd b l/\e=.returned (.tuple #[.pointer (some ⟨g,0,none⟩),.int .i64 0])/\Dic w' g l)\/((¬∃l,Rd b l)/\e=.returned (.tuple #[.pointer none,.int .i64 2])))/\Below w.heap.size w w'
theorem ReadsAs.no {w w':World} {b:List UInt8} {e:Ending} (h:¬∃l,Rd b l) (hb:Below w.heap.size w w') (he:e=.returned (.tuple #[.pointer none,.int .i64 2])):ReadsAs w b e w':=⟨.inr ⟨h,he⟩,hb⟩
theorem zjo (A:Option Addr) (c:Nat) (b:List UInt8) (w:World) (h2:b.length<2) :
    Calls prog 16 #[.slice A b.length c] w (ReadsAs w b):=by
 have HN:Hid (¬∃l,Rd b l):=ziA h2;go_enter func16,ntmps16
 go_wp2;go_ret2;exact ReadsAs.no HN.out br rfl
theorem zkx (blk c:Nat) (b:List UInt8) (w:World) (hs:Seg w (some ⟨blk,0,none⟩) b.length (bys b)) (h2:2<=b.length) (hbig:b.length<=80000) (hc:b.length<=c) :
    Calls prog 16 #[.slice (some ⟨blk,0,none⟩) b.length c] w (ReadsAs w b):=by
 have HCC:Hid (∀W,Below w.heap.size w W->∀j (hj:j<b.length),W.cell? ⟨blk,j,none⟩=some (.int .u8 (b[j].toNat:Int))):=fun W hW j hj=>by
  obtain ⟨ad,e,h⟩:=(hs.below hW).byte hj;cases e
  rw[add_zero']at h;exact h
 obtain ⟨b0,hb0⟩:∃x:Nat,b[0].toNat=x:=⟨_,rfl⟩;obtain ⟨b1,hb1⟩:∃x:Nat,b[1].toNat=x:=⟨_,rfl⟩;have l0:b0<=255:=hb0 ▸ zfT _;have l1:b1<=255:=hb1 ▸ zfT _;have k0:=HCC.out w br 0 (by omega);have k1:=HCC.out w br 1 (by omega);rw[hb0]at k0;rw[hb1]at k1;obtain ⟨n,hn⟩:∃n:Nat,b0*256+b1=n:=⟨_,rfl⟩;have hnn:n<=65535:=(by omega);have HDEC:Hid (decB b=(decN n [] (b.drop 2)).map (·.1)):=by
  have:=zlI h2;rw[hb0,hb1,hn]at this;exact this
 have e1:IntKind.i64.wrap ((b0:Int)*256)=(b0:Int)*256:=(wI (by omega));have e2:IntKind.i64.wrap ((b0:Int)*256+(b1:Int))=(n:Int):=(wI (by omega));have HS:=Lib.hid hs;clear hs hb0 hb1;go_enter func16,ntmps16
 go_wp2;go_quiet (fail)
 all_goals go_wp2
 all_goals (try (go_quiet (fail);go_wp2))
 all_goals
  clear k0 k1 e1 e2;go_loopw [4,5,6,25] (fun v4 v5 v6 v25 wr=>∃(k off m cc:Nat) (q:Addr) (L:List ByteArray) (last:ByteArray),k<=n/\v25=.int .i64 k/\v5=.string last/\last.size<=510/\v6=.slice (some q) m cc/\m<=cc/\off+m=b.length/\(m=0\/q=⟨blk,off,none⟩)/\Hid (RSt b n k off L last)/\wr.ownsRow w.heap.size 9 1 v4 k (sts L)/\Below w.heap.size w wr) (fun _ _ _ v25 _=>n-(intOf v25).toNat)
  case atStart=>
   refine ⟨0,2,b.length-2,_,_,[],⟨#[]⟩,Nat.zero_le _,rfl,rfl,by decide,rfl,?_,?_,?_,RSt.start b n,World.ownsRow_nil _ _ _ _,?_⟩
   · omega
   · omega
   · first | exact .inr rfl | exact .inl (by omega)
   · exact below_drewN' (below_drewN' br _) _
  case round=>
   clear hc;obtain ⟨k,off,m,cc,q,L,last,hk,rfl,rfl,hl510,rfl,hmc,hom,hq,HR,hown,hB⟩:=hrel;by_cases hlt:k<n
   · by_cases hm2:m<2
     · have HN:Hid (¬∃l,Rd b l):=zb7 (by rw[HDEC.out,HR.out.fail hlt (zeP (by rw[List.length_drop];omega))];rfl);have HB:=Lib.hid hB;clear hown hB;go_wp2;go_ret2;exact ReadsAs.no HN.out HB.out rfl
     · obtain rfl:q=⟨blk,off,none⟩:=by
        rcases hq with h | h
        · omega
        · exact h
       have hstep:=zkj (last:=last.data.toList) (b:=b) (off:=off) (by omega);have k2:=HCC.out wr hB off (by omega);have k3:=HCC.out wr hB (off+1) (by omega);have la:=zfT b[off];have lc:=zfT b[off+1];have hll:last.data.toList.length=last.size:=Array.length_toList;rw[hll]at hstep;clear hll;generalize b[off].toNat=av at hstep k2 la;generalize b[off+1].toNat=cv at hstep k3 lc;clear hq;by_cases ha:av<=last.size
       · by_cases hcv:cv<=m-2
         · skip
           rw[if_pos ⟨ha,by omega⟩]at hstep;obtain ⟨s2,hs2⟩:∃s2:ByteArray,str ((b.drop (off+2)).take cv)=s2:=⟨_,rfl⟩;obtain ⟨s1,hs1⟩:∃s1,last.extract 0 av=s1:=⟨_,rfl⟩;have hs1d:s1.data.toList=last.data.toList.take av:=(by rw[<-hs1];exact zc4 last av);have hs2d:s2.data.toList=(b.drop (off+2)).take cv:=(by rw[<-hs2,zae]);have HR2:Hid (RSt b n (k+1) (off+2+cv) (L++[s1++s2]) (s1++s2)):=HR.out.next hlt (by rw[hstep,ByteArray.data_append,Array.toList_append,hs1d,hs2d]);have hz1:s1.size<=255:=by
            have h:=congrArg List.length hs1d;rw[Array.length_toList,List.length_take]at h;have h':s1.size=min av last.data.toList.length:=h;omega
           have hz2:s2.size<=255:=by
            have h:=congrArg List.length hs2d;rw[Array.length_toList,List.length_take]at h;have h':s2.size=min cv (b.drop (off+2)).length:=h;omega
           have hcat:(9223372036854775807<s1.size+s2.size)=False:=eq_false (by omega);have hcv1:∀nq,(convert 22 9 (.slice (some ⟨blk,off+2,none⟩) cv (cc-2))).run prog (wr.drewN nq)=.ok (.string s2) (wr.drewN nq):=fun nq=>by
            rw[<-hs2];exact zaG _ _ _ _ _ (zdd (HCC.out _ (below_drewN' hB nq)) (off+2) cv (by omega))
           have hcv0:cv=0->∀nq,(convert 22 9 (.slice (some ⟨blk,off,none⟩) 0 0)).run prog (wr.drewN nq)=.ok (.string s2) (wr.drewN nq):=fun h0 nq=>by
            rw[<-hs2,h0];have:=zaG _ _ _ 0 _ (zdd (HCC.out _ (below_drewN' hB nq)) off 0 (by omega));simpa using this
           have h9:IntKind.i64.wrap (2+(cv:Int))=2+(cv:Int):=(wI (by omega));have h9t:(2+(cv:Int)).toNat=2+cv:=(by omega);have HO0:=Lib.hid hown;have HB0:=Lib.hid hB;clear hstep hs1d hs2d hs2 hown hB h9;obtain ⟨i0,hi,hz0,hz1',hz2'⟩:=info_parts info9;have hcases:(cc=2/\cv=0/\m=2)\/(¬cc=2/\cc=2+cv)\/(¬cc=2/\¬cc=2+cv):=(by omega);rcases hcases with ⟨rfl,rfl,rfl⟩ | ⟨hc2,rfl⟩ | ⟨hc2,hc3⟩
           · have hcv:=hcv0 rfl;clear hcv0 hcv1;go_wp2;go_quiet (fail)
             rename_i nq;have HOWN:Hid ((wr.drewN nq).ownsRow w.heap.size 9 1 u4 k (sts L)):=HO0.out.drewFd nq;have HBW:Hid (Below w.heap.size w (wr.drewN nq)):=below_drewN' HB0.out nq;have hWs:w.heap.size<=(wr.drewN nq).heap.size:=HBW.out.size;clear hcv;generalize wr.drewN nq=W at HOWN HBW hWs ⊢;go_wp2_with fail
             refine zbI (n:=9) (S:=fun w'=>True) (ds:=[]) #[false,false,false,false,false,false,false,false,false] (by kernel_rfl) rfl rfl trivial (fun _=>?_);refine pU 0 ?_;refine pU 1 ?_;refine pU 4 ?_;refine pU 5 ?_;refine pU 6 ?_;refine oN 2 (fun K hK=>?_);refine vA (.slice (some ⟨W.heap.size,0,none⟩) 1 1) (W.drew.alloc (.cells #[.string (s1++s2)] 9)) ?_;refine oU hK trivial (fun _=>?_);clear hK K;refine oN 3 (fun K hK=>?_);refine step_append_lies _ (by rfl) _ _ _ (by rfl) w.heap.size 9 i0 _ 1 16 underlying41 hi hz0 hz1' hz2' rfl (by omega) _ k (sts L) (by rfl) ((HOWN.out.drew).alloc _) ⟨W.heap.size,0,none⟩ 1 1 [.string (s1++s2)] (by rfl) (by rfl) (World.news_of_block (cs:=#[.string (s1++s2)]) (t:=9) (fr:=(0,0)) (heap_alloc_new W.drew _)) (by simp[Value.oneCell']) (by omega) (by unfold maxLen;omega) (by omega) (by simp;omega) (W.heap.size+1) (by simp) ?_;intro gg cap w1 hown1 hgrow _ _;refine oU hK trivial (fun _=>?_);clear hK K;refine pU 7 ?_;refine pU 8 ?_;refine done_ (by kernel_rfl) ?_;have hB1:Below w.heap.size w w1:=(HBW.out.drew.alloc hWs _).grown hgrow (by simp;omega) (fun j hj=>(HOWN.out.lt j hj).1);have hown2:w1.ownsRow w.heap.size 9 1 (.slice (some ⟨gg,0,none⟩) (k+1) cap) (k+1) (sts (L++[s1++s2])):=by
              have e:sts (L++[s1++s2])=sts L++[.string (s1++s2)]:=(by unfold sts;rw[List.map_append];rfl);rw[e];exact hown1
             have HOWN2:=Lib.hid hown2;have HB1:=Lib.hid hB1;clear hown1 hgrow hown2 hB1;go_wp2;go_roundw
             case rel=>exact ⟨k+1,off+2+0,2-(2+0),2-(2+0),_,L++[s1++s2],s1++s2,by omega,by go_num,rfl,by rw[ByteArray.size_append];omega,rfl,by omega,by omega,.inl (by omega),HR2,HOWN2.out,HB1.out⟩
             case measure=>simp[intOf];omega
           · have hcv:=hcv1;rw[show 2+cv-2=cv by omega]at hcv;have hc4:¬cv=0:=(by omega);have hbd:(0:Int)<=2+(cv:Int):=(by omega);have hbd2:2+(cv:Int)<=(m:Int):=(by omega);clear hcv0 hcv1;go_wp2;go_quiet (fail)
             rename_i nq;have HOWN:Hid ((wr.drewN nq).ownsRow w.heap.size 9 1 u4 k (sts L)):=HO0.out.drewFd nq;have HBW:Hid (Below w.heap.size w (wr.drewN nq)):=below_drewN' HB0.out nq;have hWs:w.heap.size<=(wr.drewN nq).heap.size:=HBW.out.size;clear hcv;generalize wr.drewN nq=W at HOWN HBW hWs ⊢;go_wp2_with fail
             refine zbI (n:=9) (S:=fun w'=>True) (ds:=[]) #[false,false,false,false,false,false,false,false,false] (by kernel_rfl) rfl rfl trivial (fun _=>?_);refine pU 0 ?_;refine pU 1 ?_;refine pU 4 ?_;refine pU 5 ?_;refine pU 6 ?_;refine oN 2 (fun K hK=>?_);refine vA (.slice (some ⟨W.heap.size,0,none⟩) 1 1) (W.drew.alloc (.cells #[.string (s1++s2)] 9)) ?_;refine oU hK trivial (fun _=>?_);clear hK K;refine oN 3 (fun K hK=>?_);refine step_append_lies _ (by rfl) _ _ _ (by rfl) w.heap.size 9 i0 _ 1 16 underlying41 hi hz0 hz1' hz2' rfl (by omega) _ k (sts L) (by rfl) ((HOWN.out.drew).alloc _) ⟨W.heap.size,0,none⟩ 1 1 [.string (s1++s2)] (by rfl) (by rfl) (World.news_of_block (cs:=#[.string (s1++s2)]) (t:=9) (fr:=(0,0)) (heap_alloc_new W.drew _)) (by simp[Value.oneCell']) (by omega) (by unfold maxLen;omega) (by omega) (by simp;omega) (W.heap.size+1) (by simp) ?_;intro gg cap w1 hown1 hgrow _ _;refine oU hK trivial (fun _=>?_);clear hK K;refine pU 7 ?_;refine pU 8 ?_;refine done_ (by kernel_rfl) ?_;have hB1:Below w.heap.size w w1:=(HBW.out.drew.alloc hWs _).grown hgrow (by simp;omega) (fun j hj=>(HOWN.out.lt j hj).1);have hown2:w1.ownsRow w.heap.size 9 1 (.slice (some ⟨gg,0,none⟩) (k+1) cap) (k+1) (sts (L++[s1++s2])):=by
              have e:sts (L++[s1++s2])=sts L++[.string (s1++s2)]:=(by unfold sts;rw[List.map_append];rfl);rw[e];exact hown1
             have HOWN2:=Lib.hid hown2;have HB1:=Lib.hid hB1;clear hown1 hgrow hown2 hB1;go_wp2;go_roundw
             case rel=>exact ⟨k+1,off+2+cv,0,0,_,L++[s1++s2],s1++s2,by omega,by go_num,rfl,by rw[ByteArray.size_append];omega,rfl,by omega,by omega,.inl rfl,HR2,HOWN2.out,HB1.out⟩
             case measure=>simp[intOf];omega
           · have hcv:=hcv1;have hbd:(0:Int)<=2+(cv:Int):=(by omega);have hbd2:2+(cv:Int)<=(m:Int):=(by omega);clear hcv0 hcv1;go_wp2;go_quiet (fail)
             rename_i nq;have HOWN:Hid ((wr.drewN nq).ownsRow w.heap.size 9 1 u4 k (sts L)):=HO0.out.drewFd nq;have HBW:Hid (Below w.heap.size w (wr.drewN nq)):=below_drewN' HB0.out nq;have hWs:w.heap.size<=(wr.drewN nq).heap.size:=HBW.out.size;clear hcv;generalize wr.drewN nq=W at HOWN HBW hWs ⊢;go_wp2_with fail
             refine zbI (n:=9) (S:=fun w'=>True) (ds:=[]) #[false,false,false,false,false,false,false,false,false] (by kernel_rfl) rfl rfl trivial (fun _=>?_);refine pU 0 ?_;refine pU 1 ?_;refine pU 4 ?_;refine pU 5 ?_;refine pU 6 ?_;refine oN 2 (fun K hK=>?_);refine vA (.slice (some ⟨W.heap.size,0,none⟩) 1 1) (W.drew.alloc (.cells #[.string (s1++s2)] 9)) ?_;refine oU hK trivial (fun _=>?_);clear hK K;refine oN 3 (fun K hK=>?_);refine step_append_lies _ (by rfl) _ _ _ (by rfl) w.heap.size 9 i0 _ 1 16 underlying41 hi hz0 hz1' hz2' rfl (by omega) _ k (sts L) (by rfl) ((HOWN.out.drew).alloc _) ⟨W.heap.size,0,none⟩ 1 1 [.string (s1++s2)] (by rfl) (by rfl) (World.news_of_block (cs:=#[.string (s1++s2)]) (t:=9) (fr:=(0,0)) (heap_alloc_new W.drew _)) (by simp[Value.oneCell']) (by omega) (by unfold maxLen;omega) (by omega) (by simp;omega) (W.heap.size+1) (by simp) ?_;intro gg cap w1 hown1 hgrow _ _;refine oU hK trivial (fun _=>?_);clear hK K;refine pU 7 ?_;refine pU 8 ?_;refine done_ (by kernel_rfl) ?_;have hB1:Below w.heap.size w w1:=(HBW.out.drew.alloc hWs _).grown hgrow (by simp;omega) (fun j hj=>(HOWN.out.lt j hj).1);have hown2:w1.ownsRow w.heap.size 9 1 (.slice (some ⟨gg,0,none⟩) (k+1) cap) (k+1) (sts (L++[s1++s2])):=by
              have e:sts (L++[s1++s2])=sts L++[.string (s1++s2)]:=(by unfold sts;rw[List.map_append];rfl);rw[e];exact hown1
             have HOWN2:=Lib.hid hown2;have HB1:=Lib.hid hB1;clear hown1 hgrow hown2 hB1;go_wp2;go_roundw
             case rel=>exact ⟨k+1,off+2+cv,m-(2+cv),cc-(2+cv),_,L++[s1++s2],s1++s2,by omega,by go_num,rfl,by rw[ByteArray.size_append];omega,rfl,by omega,by omega,.inr (by rw[Nat.add_assoc]),HR2,HOWN2.out,HB1.out⟩
             case measure=>simp[intOf];omega
         · rw[if_neg (by omega)]at hstep;have HN:Hid (¬∃l,Rd b l):=zb7 (by rw[HDEC.out,HR.out.fail hlt hstep];rfl);have HB:=Lib.hid hB;clear hown hB hstep;go_wp2;go_ret2;exact ReadsAs.no HN.out HB.out rfl
       · rw[if_neg (by omega)]at hstep;have HN:Hid (¬∃l,Rd b l):=zb7 (by rw[HDEC.out,HR.out.fail hlt hstep];rfl);have HB:=Lib.hid hB;clear hown hB hstep;go_wp2;go_ret2;exact ReadsAs.no HN.out HB.out rfl
   · obtain rfl:k=n:=(by omega);obtain ⟨A4,c4,rfl⟩:=zac hown;have hLn:=HR.out.len;have HD2:Hid (decB b=some (tx L)):=by
      show decB b=some (tx L);rw[HDEC.out,HR.out.done];rfl
     have hseg4:Seg wr A4 L.length (sts L):=(by rw[hLn];exact Seg.of_own hown);clear hown;by_cases hm:May L
     · have hnew:=zkS A4 c4 L wr hseg4 hm;rw[hLn]at hnew;have HN:=Lib.hid hnew;have HM:=Lib.hid hm;have HB:=Lib.hid hB;clear hnew hm hseg4 hLn hB;go_wp2_with fail
       refine HN.out.mono ?_;rintro e w1 ⟨g,rfl,_,hd1,hb1⟩;have HB1:=Lib.hid (thn HB.out hb1);clear hb1;go_wp2_with fail
       refine (znt g L _ hd1).mono ?_;rintro e w2 ⟨A5,n5,c5,rfl,_,hb2,hv5⟩;have hd2:=hd1.below hb2;have HB2:=Lib.hid (thn HB1.out hb2);have HD3:=Lib.hid hd2;have HV5:=Lib.hid hv5;clear hb2 hd1 hd2 hv5;have HVb:Hid (∀c',(convert 22 9 (.slice (some ⟨blk,0,none⟩) b.length c')).run prog w2=.ok (.string (str b)) w2):=fun c'=>zaG w2 (some ⟨blk,0,none⟩) b.length c' b (HS.out.below HB2.out);by_cases hE:enc (tx L)=b
       · have HRD:Hid (Rd b L):=⟨HM.out,hE⟩;have HC:=Lib.hid (fun c'=>beq_calls _ _ _ _ w2 HV5.out (HVb.out c') true (by rw[hE];exact beq_self_eq_true _));clear hE;go_wp2_with fail
         refine (HC.out _).mono ?_;rintro e w' ⟨rfl,rfl⟩;go_wp2;go_ret2;exact ⟨.inl ⟨L,g,HRD.out,rfl,HD3.out⟩,HB2.out⟩
       · have HNO:Hid (¬∃l,Rd b l):=rd_some HD2.out (fun h=>hE h.2)
         have HC:=Lib.hid (fun c'=>beq_calls _ _ _ _ w2 HV5.out (HVb.out c') false (by
          rw[Bool.eq_false_iff];intro h;rw[zkg,zae,zae]at h;exact hE h))
         clear hE;go_wp2_with fail
         refine (HC.out _).mono ?_;rintro e w' ⟨rfl,rfl⟩;go_wp2;go_ret2;exact ReadsAs.no HNO.out HB2.out rfl
     · have hnew:=new_no A4 c4 L wr hseg4 hm;rw[hLn]at hnew;have HN:=Lib.hid hnew;have HNO:Hid (¬∃l,Rd b l):=rd_some HD2.out (fun h=>hm h.1);have HB:=Lib.hid hB;clear hnew hm hseg4 hLn hB;go_wp2_with fail
       refine HN.out.mono ?_;rintro e w' ⟨rfl,rfl⟩;go_wp2;go_ret2;exact ReadsAs.no HNO.out HB.out rfl
end
end Go.Proofs.YtjcpjopbgngihaaGreatDoor.Fd
end
