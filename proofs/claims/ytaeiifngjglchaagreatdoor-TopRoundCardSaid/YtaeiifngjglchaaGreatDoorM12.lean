/- Proved on the way: The document's Show: a literal's text, e; The document's Show and Cmp; The document's order of triples; Package ring: matches and All at the pat; Package ring: All at the pattern that al; slices.Compact at terms; Sorting terms and triples of numbers; ea; Package ring: the numbers of a triple ar. Each theorem states its own conditions. -/
import Derived.Test.YtaeiifngjglchaaGreatDoorM11
import Derived.Test.YtaeiifngjglchaaGreatDoorM9
set_option maxHeartbeats 16000000
set_option maxRecDepth 1000000
section
namespace Go.Proofs.YtaeiifngjglchaaGreatDoor
open Go.Proofs.Tryz
open Go.RowKit Go.Lib Tv
def shF:ByteArray:=⟨#[34,92,10,13,9,8,12]⟩
def shT:ByteArray:=⟨#[34,92,110,114,116,98,102]⟩
theorem zlP:∀i:Fin 7,escB (shF[i.val]'(by have:=i.2;exact this))=[92,shT[i.val]'(by have:=i.2;exact this)]/\shT.extract i.val (i.val+1)=str [shT[i.val]'(by have:=i.2;exact this)]:=by decide +kernel
theorem zlQ (c:UInt8) (h:∀i:Fin 7,(shF[i.val]'(by have:=i.2;exact this))≠c):escB c=if c<32\/c=127 then [92,117,48,48,hexB (c.toNat / 16),hexB (c.toNat % 16)] else [c]:=by
 have h0:(34:UInt8)≠c:=h 0;have h1:(92:UInt8)≠c:=h 1;have h2:(10:UInt8)≠c:=h 2;have h3:(13:UInt8)≠c:=h 3;have h4:(9:UInt8)≠c:=h 4;have h5:(8:UInt8)≠c:=h 5;have h6:(12:UInt8)≠c:=h 6;unfold escB;rw[if_neg h0.symm,if_neg h1.symm,if_neg h2.symm,if_neg h3.symm,if_neg h4.symm,if_neg h5.symm,if_neg h6.symm]
theorem zkW (l:Bs) (i:Nat) (h:i<l.length):escS (l.take (i+1))=escS (l.take i)++escB l[i]:=by
 rw[zfO l i h,zgx]
theorem zfv (l:Bs) (i:Nat):(escS (l.take i)).length<=6*l.length:=by
 have:=zcm (l.take i);rw[List.length_take]at this;omega
theorem zek (l:Bs) (w:World) (hl:l.length<=1000000) :
    Calls prog 106 #[.string (str l)] w fun v w'=>v=.returned (.string (str (escS l)))/\Below w.heap.size w w':=by
 have hsz:=zab l;obtain ⟨S,hS⟩:∃S,str l=S:=⟨_,rfl⟩;rw[hS]at hsz ⊢;have HS:=hid hS;clear hS;have hFs:shF.size=7:=rfl;have hTs:shT.size=7:=rfl;have hXs:hexS.size=16:=rfl;go_enter func106,ntmps106
 go_wp2;rw[show (⟨#[34,92,10,13,9,8,12]⟩:ByteArray)=shF from rfl,show (⟨#[34,92,110,114,116,98,102]⟩:ByteArray)=shT from rfl,show (⟨#[48,49,50,51,52,53,54,55,56,57,65,66,67,68,69,70]⟩:ByteArray)=hexS from rfl];go_loopw [6,7] (fun v6 v7 wr=>∃(i:Nat) (acc:Bs),v6=.string (str acc)/\v7=.int .i64 i/\i<=l.length/\Hid (acc=escS (l.take i))/\Below w.heap.size w wr) (fun _ v7 _=>l.length-(intOf v7).toNat)
 case atStart=>exact ⟨0,[],rfl,rfl,Nat.zero_le _,hid rfl,br⟩
 case round=>
  obtain ⟨i,acc,rfl,rfl,hil,HA,hb⟩:=hrel;have HB:=hid hb;clear hb;by_cases hlt:i<l.length
  · have hiS:i<S.size:=(by omega);have hgi:S[i]'hiS=l[i]:=(by have:=HS.out;subst this;rfl);have hs1:S.extract i (i+1)=str [l[i]]:=(by rw[<-HS.out];exact zjQ l i hlt);have HNX:Hid (∀r,escB l[i]=r->acc++r=escS (l.take (i+1))):=fun r hr=>(by rw[zkW l i hlt,hr,HA.out]);have hal:acc.length<=6*l.length:=(by rw[HA.out];exact zfv l i);generalize l[i]=c at hgi hs1 HNX;have hc:=c.toNat_lt;obtain ⟨n,hn⟩:∃n,c.toNat=n:=⟨_,rfl⟩;have HN:=hid hn;rw[hn]at hc;have hgi2:(S[i]'hiS).toNat=n:=(by rw[hgi];exact hn);clear hgi hn HA;go_wp2;go_loopw [9] (fun v9 wk=>∃k:Nat,v9=.int .i64 k/\k<=7/\Hid (∀j:Fin 7,j.val<k->(shF[j.val]'(by have:=j.2;exact this))≠c)/\wk=wr) (fun v9 _=>7-(intOf v9).toNat)
    case atStart=>exact ⟨0,rfl,by omega,hid fun j hj=>absurd hj (by omega),rfl⟩
    case round=>
     obtain ⟨k,rfl,hk7,HK,rfl⟩:=hrel;by_cases hkl:k<7
     · have hkf:k<shF.size:=hkl;by_cases hcy:(shF[k]'hkf)=c
       · obtain ⟨d,hd1,hd2⟩:∃d,escB (shF[k]'hkf)=[92,d]/\shT.extract k (k+1)=str [d]:=⟨_,zlP ⟨k,hkl⟩⟩;rw[hcy]at hd1;have HE:=hid (HNX.out _ hd1);have hq:(((shF[k]'hkf).toNat:Int) != (n:Int))=false:=(by rw[bne_eq_false_iff_eq,hcy,HN.out]);have r1:=zag acc [92] (by simp;omega);have r2:=zag (acc++[92]) [d] (by simp;omega);rw[show str [92]=(⟨#[92]⟩:ByteArray) from rfl]at r1;have r3:acc++[92]++[d]=acc++[92,d]:=(by simp);rw[r3]at r2;clear hcy HK HNX hd1 r3;go_wp2;go_roundw
         case rel=>exact ⟨i+1,acc++[92,d],rfl,by go_num,by omega,HE,HB.out⟩
         case measure=>simp[intOf];omega
       · have hq:(((shF[k]'hkf).toNat:Int) != (n:Int))=true:=by
          rw[bne_iff_ne,<-HN.out];exact fun h=>hcy (UInt8.toNat_inj.1 (by omega))
         have HK2:Hid (∀j:Fin 7,j.val<k+1->(shF[j.val]'(by have:=j.2;exact this))≠c):=fun j hj=>by
          by_cases hjk:j.val<k
          · exact HK.out j hjk
          · have e:j=⟨k,hkl⟩:=Fin.ext (by show j.val=k;omega);subst e;exact hcy
         clear hcy HK HNX hs1;go_wp2;go_roundw
         case rel=>exact ⟨k+1,by go_num,by omega,HK2,by first | rfl | trivial⟩
         case measure=>simp[intOf];omega
     · obtain rfl:k=7:=(by omega);have he:=zlQ c fun j=>HK.out j j.2;clear HK hkl;rw[HN.out]at he;have q127:((n:Int) == 127)=decide (c=127):=(by rw[<-HN.out];exact zb6 c 127 (by decide));have q32:c<32↔n<32:=(by rw[UInt8.lt_iff_toNat_lt,HN.out];exact Iff.rfl);by_cases hsp:c<32\/c=127
       · rw[if_pos hsp]at he;have HE:=hid (HNX.out _ he);have hi:n / 16<16:=(by omega);have lo:n % 16<16:=Nat.mod_lt _ (by decide);have x1:=zcZ _ hi;have x2:=zcZ _ lo;have r1:=zag acc [92,117,48,48] (by simp;omega);have r2:=zag (acc++[92,117,48,48]) [hexB (n / 16)] (by simp;omega);have r3:=zag (acc++[92,117,48,48]++[hexB (n / 16)]) [hexB (n % 16)] (by simp;omega);rw[show str [92,117,48,48]=(⟨#[92,117,48,48]⟩:ByteArray) from rfl]at r1;have r4:acc++[92,117,48,48]++[hexB (n / 16)]++[hexB (n % 16)]=acc++[92,117,48,48,hexB (n / 16),hexB (n % 16)]:=(by simp);have r5:acc++[92,117,48,48]++[hexB (n / 16)]=acc++[92,117,48,48,hexB (n / 16)]:=(by simp);rw[r4,r5]at r3;rw[r5]at r2;have hbd:Below w.heap.size w wr.drew:=HB.out.trans ⟨rfl,rfl,rfl,nL,fun _ _=>rfl⟩;have HBD:=hid hbd;clear r4 r5 hbd he HNX hs1;have hor:(n:Int)<32\/(¬(n:Int)<32/\((n:Int) == 127)=true):=by
          by_cases h:n<32
          · left;omega
          · right
            refine ⟨by omega,?_⟩;rw[q127];exact dT (hsp.resolve_left fun h2=>h (q32.1 h2))
         clear q127 q32 hsp;rcases hor with h32 | ⟨h32,h127⟩
         all_goals
          go_wp2;go_region
          go_wp2;go_roundw
          case rel=>exact ⟨i+1,_,rfl,by go_num,by omega,HE,HBD.out⟩
          case measure=>simp[intOf];omega
       · rw[if_neg hsp]at he;have HE:=hid (HNX.out _ he);have h32:¬(n:Int)<32:=by
          have:¬n<32:=fun h=>hsp (.inl (q32.2 h));omega
         have h127:((n:Int) == 127)=false:=(by rw[q127];exact dF fun h=>hsp (.inr h));have r1:=zag acc [c] (by simp;omega);clear q127 q32 hsp he HNX;go_wp2;go_roundw
         case rel=>exact ⟨i+1,_,rfl,by go_num,by omega,HE,HB.out⟩
         case measure=>simp[intOf];omega
  · obtain rfl:i=l.length:=(by omega);have HE:Hid (acc=escS l):=by
     have h:=HA.out;rw[List.take_length]at h;exact h
    clear HA;go_wp2;go_ret;exact ⟨by rw[<-HE.out];rfl,HB.out⟩
theorem zdD (t:Tm) (h:Sml t) (w:World) :
    Calls prog 45 #[.agg (encT t).toArray] w fun v w'=>v=.returned (.string (str (shw t)))/\Below w.heap.size w w':=by
 obtain ⟨k,x,e⟩:=t;obtain ⟨hx,he⟩:=h;simp only at hx he;have hxs:(str x).size<=1000000:=(by rw[zab];exact hx);have hes:(str e).size<=1000000:=(by rw[zab];exact he);have HQ:=hid fun w=>zek x w hx;have hel:=zcm x;obtain ⟨wa,hwa⟩:∃wa,w.alloc (.cells #[.int .i64 k,.string (str x),.string (str e)] 62)=wa:=⟨_,rfl⟩;have hba:Below w.heap.size w wa:=(by rw[<-hwa];exact br.alloc nL _);have hcc:∀W,Below wa.heap.size wa W->W.cell? ⟨w.heap.size,0,none⟩=some (.int .i64 k)/\W.cell? ⟨w.heap.size,1,none⟩=some (.string (str x))/\W.cell? ⟨w.heap.size,2,none⟩=some (.string (str e)):=fun W hW=>by
  have h1:wa.heap[w.heap.size]?=some (.cells #[.int .i64 k,.string (str x),.string (str e)] 62 (0,0)):=(by rw[<-hwa];exact heap_alloc_new w _);have h2:=(hW.block _ (Array.getElem?_eq_some_iff.1 h1).1).trans h1;exact ⟨by rw[cell_of_heap h2];rfl,by rw[cell_of_heap h2];rfl,by rw[cell_of_heap h2];rfl⟩
 obtain ⟨c0,c1,c2⟩:=hcc wa br;have HCC:=hid hcc;have FIN:Hid (∀W,Below wa.heap.size wa W->Below w.heap.size w W):=fun W hW=>hba.trans (hW.mono hba.size);have HF0:=hid hba;have r1:=zag [34] (escS x) (by simp;omega);have r2:=zag ([34]++escS x) [34] (by simp;omega);have hqe:[34]++escS x++[34]=qt x:=(by unfold qt;simp);rw[hqe]at r2;obtain ⟨y0,hy0⟩:∃y,[34]++escS x=y:=⟨_,rfl⟩;rw[hy0]at r1 r2;have hql:=zj7 x;rw[show str [34]=(⟨#[34]⟩:ByteArray) from rfl]at r1 r2;unfold encT;simp only;clear hcc hba hqe hy0;by_cases h1:k=1
 · subst h1;have a1:=zag [60] x (by simp;omega);have a2:=zag ([60]++x) [62] (by simp;omega);rw[show str [60]=(⟨#[60]⟩:ByteArray) from rfl]at a1;rw[show str [62]=(⟨#[62]⟩:ByteArray) from rfl]at a2;rw[show shw ⟨1,x,e⟩=[60]++x++[62] by unfold shw;simp];obtain ⟨y1,hy1⟩:∃y,[60]++x=y:=⟨_,rfl⟩;rw[hy1]at a1 a2 ⊢;clear r1 r2 hy1;go_enter func45,ntmps45
   go_wp2;go_ret;exact ⟨by first | rfl | simp,HF0.out⟩
 have b1:(k == 1)=false:=(by rw[beq_eq_false_iff_ne];exact h1);by_cases h2:k=2
 · subst h2;have a1:=zag [95,58] x (by simp;omega);rw[show str [95,58]=(⟨#[95,58]⟩:ByteArray) from rfl]at a1;rw[show shw ⟨2,x,e⟩=[95,58]++x by unfold shw;simp];obtain ⟨y1,hy1⟩:∃y,[95,58]++x=y:=⟨_,rfl⟩;rw[hy1]at a1 ⊢;clear r1 r2 hy1;go_enter func45,ntmps45
   go_wp2;go_ret;exact ⟨by first | rfl | simp,HF0.out⟩
 have b2:(k == 2)=false:=(by rw[beq_eq_false_iff_ne];exact h2);by_cases h4:k=4
 · subst h4;have a1:=zag (qt x) [64] (by simp;omega);have a2:=zag (qt x++[64]) e (by simp;omega);rw[show str [64]=(⟨#[64]⟩:ByteArray) from rfl]at a1;rw[show shw ⟨4,x,e⟩=qt x++[64]++e by unfold shw;simp];obtain ⟨y1,hy1⟩:∃y,qt x++[64]=y:=⟨_,rfl⟩;rw[hy1]at a1 a2 ⊢;clear hy1;go_enter func45,ntmps45
   go_wp2_with fail
   refine (HQ.out _).mono ?_;rintro v w1 ⟨rfl,hb1⟩;obtain ⟨k0,k1,k2⟩:=HCC.out w1 hb1;have HB1:=hid hb1;clear hb1;go_wp2;go_ret;exact ⟨by first | rfl | simp,FIN.out _ HB1.out⟩
 have b4:(k == 4)=false:=(by rw[beq_eq_false_iff_ne];exact h4);by_cases h5:k=5
 · subst h5;have a1:=zag (qt x) [94,94,60] (by simp;omega);have a2:=zag (qt x++[94,94,60]) e (by simp;omega);have a3:=zag (qt x++[94,94,60]++e) [62] (by simp;omega);rw[show str [94,94,60]=(⟨#[94,94,60]⟩:ByteArray) from rfl]at a1;rw[show str [62]=(⟨#[62]⟩:ByteArray) from rfl]at a3;rw[show shw ⟨5,x,e⟩=qt x++[94,94,60]++e++[62] by unfold shw;simp];obtain ⟨y1,hy1⟩:∃y,qt x++[94,94,60]=y:=⟨_,rfl⟩;rw[hy1]at a1 a2 a3 ⊢;obtain ⟨y2,hy2⟩:∃y,y1++e=y:=⟨_,rfl⟩;rw[hy2]at a2 a3 ⊢;have HY1:=hid hy1;have HY2:=hid hy2;clear hy1 hy2;go_enter func45,ntmps45
   go_wp2_with fail
   refine (HQ.out _).mono ?_;rintro v w1 ⟨rfl,hb1⟩;obtain ⟨k0,k1,k2⟩:=HCC.out w1 hb1;have HB1:=hid hb1;clear hb1;go_wp2;go_ret;exact ⟨by first | rfl | simp,FIN.out _ HB1.out⟩
 have b5:(k == 5)=false:=(by rw[beq_eq_false_iff_ne];exact h5);rw[show shw ⟨k,x,e⟩=qt x by unfold shw;simp[h1,h2,h4,h5]];go_enter func45,ntmps45
 go_wp2_with fail
 refine (HQ.out _).mono ?_;rintro v w1 ⟨rfl,hb1⟩;obtain ⟨k0,k1,k2⟩:=HCC.out w1 hb1;have HB1:=hid hb1;clear hb1;go_wp2;go_ret;exact ⟨by first | rfl | simp,FIN.out _ HB1.out⟩
theorem zbi (t:Tm) (h:Sml t) (w:World) (n:Nat) (os:Array Obj) :
    Calls prog 45 #[.agg (encT t).toArray] (Sort.grow (w.drewN n) os) fun e w''=>e=.returned (.string (str (shw t)))/\∃p:GrownBy,w''=Sort.grow (w.drewN p.n) p.os:=
 Calls.grown_of (Dr.calls_grow (zdD t h _))
theorem zgz:∀args w,(callFunc 45 args).run prog w=.ok (.enter 45 args) w:=enters_of func45 (by kernel_rfl) rfl
theorem zbL (s t:Tm) (hs:Sml s) (ht:Sml t) (w:World) :
    Calls prog 131 #[.agg (encT s).toArray,.agg (encT t).toArray] w fun e w'=>e=.returned (.int .i64 (cmpT s t))/\Below w.heap.size w w':=by
 have HS:=hid fun w n os=>zbi s hs w n os;have HT:=hid fun w n os=>zbi t ht w n os;clear hs ht;unfold cmpT;obtain ⟨k1,x1,e1⟩:=s;obtain ⟨k2,x2,e2⟩:=t;unfold encT at HS HT ⊢;simp only at HS HT ⊢;generalize shw ⟨k1,x1,e1⟩=r1 at HS ⊢;generalize shw ⟨k2,x2,e2⟩=r2 at HT ⊢;obtain ⟨x,hx⟩:∃x,Op.bytesLess (str r1).toList (str r2).toList=x:=⟨_,rfl⟩;obtain ⟨y,hy⟩:∃y,((str r1).toList == (str r2).toList)=y:=⟨_,rfl⟩;obtain ⟨R,hR⟩:∃R,cmpB r1 r2=R:=⟨_,rfl⟩;have HR:Hid (R=if x=true then -1 else if y=true then 0 else 1):=by
  show R=_;rw[<-hR,<-hx,<-hy,zg4,Lib.toList_data,Lib.toList_data,zad,zad];unfold cmpB;simp
 rw[hR];clear hR;go_enter func131,ntmps131
 go_wp2;have c0:∀(n:Nat) (os:Array Obj),(Sort.grow (((w.alloc (.cells #[.int .i64 k1,.string (str x1),.string (str e1)] 62)).alloc (.cells #[.int .i64 k2,.string (str x2),.string (str e2)] 62)).drewN n) os).cell? ⟨w.heap.size,0,none⟩=some (.int .i64 k1):=fun n os=>cell_grown (by simp;omega) (by simp) n os;have c1:∀(n:Nat) (os:Array Obj),(Sort.grow (((w.alloc (.cells #[.int .i64 k1,.string (str x1),.string (str e1)] 62)).alloc (.cells #[.int .i64 k2,.string (str x2),.string (str e2)] 62)).drewN n) os).cell? ⟨w.heap.size,1,none⟩=some (.string (str x1)):=fun n os=>cell_grown (by simp;omega) (by simp) n os;have c2:∀(n:Nat) (os:Array Obj),(Sort.grow (((w.alloc (.cells #[.int .i64 k1,.string (str x1),.string (str e1)] 62)).alloc (.cells #[.int .i64 k2,.string (str x2),.string (str e2)] 62)).drewN n) os).cell? ⟨w.heap.size,2,none⟩=some (.string (str e1)):=fun n os=>cell_grown (by simp;omega) (by simp) n os;have d0:∀(n:Nat) (os:Array Obj),(Sort.grow (((w.alloc (.cells #[.int .i64 k1,.string (str x1),.string (str e1)] 62)).alloc (.cells #[.int .i64 k2,.string (str x2),.string (str e2)] 62)).drewN n) os).cell? ⟨w.heap.size+1,0,none⟩=some (.int .i64 k2):=fun n os=>cell_grown (by simp) (by simp) n os;have d1:∀(n:Nat) (os:Array Obj),(Sort.grow (((w.alloc (.cells #[.int .i64 k1,.string (str x1),.string (str e1)] 62)).alloc (.cells #[.int .i64 k2,.string (str x2),.string (str e2)] 62)).drewN n) os).cell? ⟨w.heap.size+1,1,none⟩=some (.string (str x2)):=fun n os=>cell_grown (by simp) (by simp) n os;have d2:∀(n:Nat) (os:Array Obj),(Sort.grow (((w.alloc (.cells #[.int .i64 k1,.string (str x1),.string (str e1)] 62)).alloc (.cells #[.int .i64 k2,.string (str x2),.string (str e2)] 62)).drewN n) os).cell? ⟨w.heap.size+1,2,none⟩=some (.string (str e2)):=fun n os=>cell_grown (by simp) (by simp) n os;generalize hw1:((w.alloc (.cells #[.int .i64 k1,.string (str x1),.string (str e1)] 62)).alloc (.cells #[.int .i64 k2,.string (str x2),.string (str e2)] 62))=w1 at c0 c1 c2 d0 d1 d2 ⊢;have HB:Hid (Below w.heap.size w w1):=by
  show Below w.heap.size w w1;rw[<-hw1];exact ((Below.refl _ w).alloc nL _).alloc (by simp) _
 have hs1:w.heap.size<=w1.heap.size:=HB.out.size;clear hw1;have hmix:=mixed;have hent:=zgz;go_quiet_grown (first | (go_at_fn 45;first | with_reducible exact HS.out _ _ _ | with_reducible exact HT.out _ _ _))
 clear c0 c1 c2 d0 d1 d2;have hg:=zkN 9;cases x with
 | true=>
  have HR2:Hid (R = -1):=HR.out.trans (by simp);clear HR;go_wp2;go_ret;exact ⟨by rw[HR2.out];rfl,HB.out.trans ((below_grow _ _ _).mono hs1)⟩
 | false=>
  cases y with
  | true=>
   have HR2:Hid (R=0):=HR.out.trans (by simp);clear HR;go_wp2;go_ret;exact ⟨by rw[HR2.out];rfl,HB.out.trans ((below_grow _ _ _).mono hs1)⟩
  | false=>
   have HR2:Hid (R=1):=HR.out.trans (by simp);clear HR;go_wp2;go_ret;exact ⟨by rw[HR2.out];rfl,HB.out.trans ((below_grow _ _ _).mono hs1)⟩
theorem zhL (s t:Tri) (hs:SmlT s) (ht:SmlT t) (w:World) :
    Calls prog 130 #[.agg (encTri s).toArray,.agg (encTri t).toArray] w fun e w'=>e=.returned (.int .i64 (cmpTri s t))/\Below w.heap.size w w':=by
 unfold cmpTri;obtain ⟨⟨k1,x1,e1⟩,⟨k2,x2,e2⟩,⟨k3,x3,e3⟩⟩:=s;obtain ⟨⟨m1,y1,f1⟩,⟨m2,y2,f2⟩,⟨m3,y3,f3⟩⟩:=t;have H1:=hid fun W=>zbL ⟨k1,x1,e1⟩ ⟨m1,y1,f1⟩ hs.1 ht.1 W;have H2:=hid fun W=>zbL ⟨k2,x2,e2⟩ ⟨m2,y2,f2⟩ hs.2.1 ht.2.1 W;have H3:=hid fun W=>zbL ⟨k3,x3,e3⟩ ⟨m3,y3,f3⟩ hs.2.2 ht.2.2 W;clear hs ht;unfold encTri;unfold encT at H1 H2 H3 ⊢;simp only[List.cons_append,List.nil_append]at H1 H2 H3 ⊢;generalize cmpT ⟨k1,x1,e1⟩ ⟨m1,y1,f1⟩=r1 at H1 ⊢;generalize cmpT ⟨k2,x2,e2⟩ ⟨m2,y2,f2⟩=r2 at H2 ⊢;generalize cmpT ⟨k3,x3,e3⟩ ⟨m3,y3,f3⟩=r3 at H3 ⊢;obtain ⟨wa,hwa⟩:∃wa,w.alloc (.cells #[.int .i64 k1,.string (str x1),.string (str e1),.int .i64 k2,.string (str x2),.string (str e2),.int .i64 k3,.string (str x3),.string (str e3)] 110)=wa:=⟨_,rfl⟩;obtain ⟨wb,hwb⟩:∃wb,wa.alloc (.cells #[.int .i64 m1,.string (str y1),.string (str f1),.int .i64 m2,.string (str y2),.string (str f2),.int .i64 m3,.string (str y3),.string (str f3)] 110)=wb:=⟨_,rfl⟩;have hna:wa.heap.size=w.heap.size+1:=(by rw[<-hwa];simp);have hba:Below wa.heap.size wa wb:=(by rw[<-hwb];exact br.alloc nL _);have hbb:Below w.heap.size w wb:=by
  rw[<-hwb,<-hwa];exact ((Below.refl _ w).alloc nL _).alloc (by simp) _
 have hcc:∀W,Below wb.heap.size wb W->(∀i v,(#[.int .i64 k1,.string (str x1),.string (str e1),.int .i64 k2,.string (str x2),.string (str e2),.int .i64 k3,.string (str x3),.string (str e3)]:Array Value)[i]?=some v->W.cell? ⟨w.heap.size,i,none⟩=some v)/\
     (∀i v,(#[.int .i64 m1,.string (str y1),.string (str f1),.int .i64 m2,.string (str y2),.string (str f2),.int .i64 m3,.string (str y3),.string (str f3)]:Array Value)[i]?=some v->W.cell? ⟨w.heap.size+1,i,none⟩=some v):=fun W hW=>by
  have h1:wa.heap[w.heap.size]?=some (.cells #[.int .i64 k1,.string (str x1),.string (str e1),.int .i64 k2,.string (str x2),.string (str e2),.int .i64 k3,.string (str x3),.string (str e3)] 110 (0,0)):=(by rw[<-hwa];exact heap_alloc_new w _);have h2:=(hba.block _ (Array.getElem?_eq_some_iff.1 h1).1).trans h1;have h3:=(hW.block _ (Array.getElem?_eq_some_iff.1 h2).1).trans h2;have g1:wb.heap[w.heap.size+1]?=some (.cells #[.int .i64 m1,.string (str y1),.string (str f1),.int .i64 m2,.string (str y2),.string (str f2),.int .i64 m3,.string (str y3),.string (str f3)] 110 (0,0)):=(by rw[<-hwb,<-hna];exact heap_alloc_new wa _);have g2:=(hW.block _ (Array.getElem?_eq_some_iff.1 g1).1).trans g1;exact ⟨fun i v hv=>by rw[cell_of_heap h3];exact hv,fun i v hv=>by rw[cell_of_heap g2];exact hv⟩
 have HCC:=hid hcc;have HBB:=hid hbb;have HNA:=hid hna;have a0:=(hcc wb br).1 0 _ rfl;have a1:=(hcc wb br).1 1 _ rfl;have a2:=(hcc wb br).1 2 _ rfl;have b0:=(hcc wb br).2 0 _ rfl;have b1:=(hcc wb br).2 1 _ rfl;have b2:=(hcc wb br).2 2 _ rfl;clear hcc hbb hba;have HR:Hid ((r1≠0->or3 r1 r2 r3=r1)/\(r1=0->r2≠0->or3 r1 r2 r3=r2)/\(r1=0->r2=0->or3 r1 r2 r3=r3)):=by
  unfold or3;exact ⟨fun h=>by rw[if_neg h],fun h h2=>by rw[if_pos h,if_neg h2],fun h h2=>by rw[if_pos h,if_pos h2]⟩
 generalize or3 r1 r2 r3=R at HR ⊢;by_cases h1:r1=0
 · have q1:(r1 == 0)=true:=(by rw[beq_iff_eq];exact h1);by_cases h2:r2=0
   · have q2:(r2 == 0)=true:=(by rw[beq_iff_eq];exact h2);have HE:=hid (HR.out.2.2 h1 h2);clear h1 h2 HR;go_enter func130,ntmps130
     go_wp2_with fail
     refine (H1.out _).mono ?_;rintro v w1 ⟨rfl,hb1⟩;have c3:=(HCC.out _ hb1).1 3 _ rfl;have c4:=(HCC.out _ hb1).1 4 _ rfl;have c5:=(HCC.out _ hb1).1 5 _ rfl;have d3:=(HCC.out _ hb1).2 3 _ rfl;have d4:=(HCC.out _ hb1).2 4 _ rfl;have d5:=(HCC.out _ hb1).2 5 _ rfl;have HB1:=hid hb1;clear hb1;go_wp2_with fail
     refine (H2.out _).mono ?_;rintro v w2 ⟨rfl,hb2⟩;have HB2:=hid (HB1.out.trans (hb2.mono HB1.out.size));have c6:=(HCC.out _ HB2.out).1 6 _ rfl;have c7:=(HCC.out _ HB2.out).1 7 _ rfl;have c8:=(HCC.out _ HB2.out).1 8 _ rfl;have d6:=(HCC.out _ HB2.out).2 6 _ rfl;have d7:=(HCC.out _ HB2.out).2 7 _ rfl;have d8:=(HCC.out _ HB2.out).2 8 _ rfl;clear hb2;go_wp2_with fail
     refine (H3.out _).mono ?_;rintro v w3 ⟨rfl,hb3⟩;have HB3:=hid (HB2.out.trans (hb3.mono HB2.out.size));clear hb3;go_wp2;go_ret;exact ⟨by rw[HE.out];rfl,HBB.out.trans (HB3.out.mono HBB.out.size)⟩
   · have q2:(r2 == 0)=false:=(by rw[beq_eq_false_iff_ne];exact h2);have HE:=hid (HR.out.2.1 h1 h2);clear h1 h2 HR;go_enter func130,ntmps130
     go_wp2_with fail
     refine (H1.out _).mono ?_;rintro v w1 ⟨rfl,hb1⟩;have c3:=(HCC.out _ hb1).1 3 _ rfl;have c4:=(HCC.out _ hb1).1 4 _ rfl;have c5:=(HCC.out _ hb1).1 5 _ rfl;have d3:=(HCC.out _ hb1).2 3 _ rfl;have d4:=(HCC.out _ hb1).2 4 _ rfl;have d5:=(HCC.out _ hb1).2 5 _ rfl;have HB1:=hid hb1;clear hb1;go_wp2_with fail
     refine (H2.out _).mono ?_;rintro v w2 ⟨rfl,hb2⟩;have HB2:=hid (HB1.out.trans (hb2.mono HB1.out.size));clear hb2;go_wp2;go_ret;exact ⟨by rw[HE.out];rfl,HBB.out.trans (HB2.out.mono HBB.out.size)⟩
 · have q1:(r1 == 0)=false:=(by rw[beq_eq_false_iff_ne];exact h1);have HE:=hid (HR.out.1 h1);clear h1 HR;go_enter func130,ntmps130
   go_wp2_with fail
   refine (H1.out _).mono ?_;rintro v w1 ⟨rfl,hb1⟩;have HB1:=hid hb1;clear hb1;go_wp2;go_ret;exact ⟨by rw[HE.out];rfl,HBB.out.trans (HB1.out.mono HBB.out.size)⟩
end Go.Proofs.YtaeiifngjglchaaGreatDoor
end
section
namespace Go.Proofs.YtaeiifngjglchaaGreatDoor
open Go.Proofs.Tryz
open Go.RowKit Go.Lib Tv Go.Sort
theorem zeh (x:Ids) (w:World):Calls prog 99 #[.agg #[.int .i64 0,.int .i64 0,.int .i64 0],.agg (encI x).toArray] w fun e w'=>e=.returned (.bool true)/\Below w.heap.size w w':=by
 obtain ⟨wa,hwa⟩:∃wa,w.alloc (.cells #[.int .i64 0,.int .i64 0,.int .i64 0] 103)=wa:=⟨_,rfl⟩;obtain ⟨wb,hwb⟩:∃wb,wa.alloc (.cells #[.int .i64 x.a,.int .i64 x.b,.int .i64 x.c] 103)=wb:=⟨_,rfl⟩;have hba:Below w.heap.size w wa:=(by rw[<-hwa];exact br.alloc nL _);have hbb:Below wa.heap.size wa wb:=(by rw[<-hwb];exact br.alloc nL _);have hx:Cell3I wb w.heap.size ⟨0,0,0⟩:=by
  have:Cell3I wa w.heap.size ⟨0,0,0⟩:=(by rw[<-hwa];exact ⟨by simp,by simp,by simp⟩);exact ⟨zaa this.1 hbb,zaa this.2.1 hbb,zaa this.2.2 hbb⟩
 obtain ⟨c0,c1,c2⟩:=hx;simp only at c0 c1 c2;have HB:=hid (hba.trans (hbb.mono hba.size));clear hba hbb;have i0:∀w,Sem.run prog (Instr.index 103 (.agg #[.int .i64 0,.int .i64 0,.int .i64 0]) (.int .i64 0)) w=.ok (.int .i64 0) w:=fun w=>(by rfl);have i1:∀w,Sem.run prog (Instr.index 103 (.agg #[.int .i64 0,.int .i64 0,.int .i64 0]) (.int .i64 1)) w=.ok (.int .i64 0) w:=fun w=>(by rfl);have i2:∀w,Sem.run prog (Instr.index 103 (.agg #[.int .i64 0,.int .i64 0,.int .i64 0]) (.int .i64 2)) w=.ok (.int .i64 0) w:=fun w=>(by rfl);unfold encI;go_enter func99,ntmps99
 go_wp2;go_loopw [8] (fun i wr=>Hid (wr=wb)/\∃(k:Nat),i=.int .i64 k/\(k=0\/k=1\/k=2\/k=3)) (fun i _=>3-(RowKit.intOf i).toNat)
 case atStart=>exact ⟨(rfl:wb=wb),0,rfl,.inl rfl⟩
 case round=>
  obtain ⟨hw,k,rfl,hk⟩:=hrel;have HW:=hw;clear hw;rcases hk with rfl | rfl | rfl | rfl
  · go_wp2;go_round
    case measure=>decide
    case rel=>exact ⟨HW,1,rfl,.inr (.inl rfl)⟩
  · go_wp2;go_round
    case measure=>decide
    case rel=>exact ⟨HW,2,rfl,.inr (.inr (.inl rfl))⟩
  · go_wp2;go_round
    case measure=>decide
    case rel=>exact ⟨HW,3,rfl,.inr (.inr (.inr rfl))⟩
  · go_wp2;go_ret;rw[HW.out];exact ⟨rfl,HB.out⟩
theorem zeq (p:Nat) (x:Ids) (w:World) (hp:Cell3I w p ⟨0,0,0⟩):Calls prog 98 #[.agg (encI x).toArray,.pointer (some ⟨p,0,none⟩)] w fun e w'=>e=.returned (.bool false)/\Below w.heap.size w w':=by
 have HM:=hid fun w=>zeh x w;obtain ⟨wa,hwa⟩:∃wa,w.alloc (.cells #[.int .i64 x.a,.int .i64 x.b,.int .i64 x.c] 103)=wa:=⟨_,rfl⟩;have hba:Below w.heap.size w wa:=(by rw[<-hwa];exact br.alloc nL _);have p0:=zaa hp.1 hba;have p1:=zaa hp.2.1 hba;have p2:=zaa hp.2.2 hba;simp only at p0 p1 p2;have b0:wa.cell? ⟨w.heap.size,0,none⟩=some (.int .i64 x.a):=(by rw[<-hwa];simp);have b1:wa.cell? ⟨w.heap.size,1,none⟩=some (.int .i64 x.b):=(by rw[<-hwa];simp);have b2:wa.cell? ⟨w.heap.size,2,none⟩=some (.int .i64 x.c):=(by rw[<-hwa];simp);have HB:=hid hba;clear hba hp;unfold encI at HM ⊢;go_enter func98,ntmps98
 go_wp2_with fail
 refine (HM.out _).mono ?_;rintro e w1 ⟨rfl,hb1⟩;go_wp2;go_ret;exact ⟨rfl,HB.out.trans (hb1.mono HB.out.size)⟩
def RowI (w:World) (B:Nat) (v:Value) (l:List Ids):Prop:=w.ownsRow B 103 3 v l.length (l.flatMap encI)
theorem RowI.below {w w1:World} {B:Nat} {v:Value} {l:List Ids} (h:RowI w B v l) (hb:Below w.heap.size w w1):RowI w1 B v l:=(Fr.of_below hb fun _=>False).own h fun _ _ h=>h
theorem RowI.le {w:World} {B B':Nat} {v:Value} {l:List Ids} (h:RowI w B v l) (hB:B'<=B):RowI w B' v l:=by
 obtain ⟨h1,h⟩:=h;rcases h with h | ⟨g,cap,cur,hv,hg,r⟩
 · exact ⟨h1,.inl h⟩
 · exact ⟨h1,.inr ⟨g,cap,cur,hv,Nat.le_trans hB hg,r⟩⟩
theorem zbw:∃i,prog.info? 103=some i/\i.zero=some (.agg #[.int .i64 0,.int .i64 0,.int .i64 0])/\i.size=3/\i.bytes=24:=
 info_parts (by kernel_rfl)
theorem zcR (l:List Ids) (v:Value) (B:Nat) (w:World) (h:RowI w B v l) (hl:l.length<=100000) :
    Calls prog 97 #[v] w fun e w'=>∃v',e=.returned v'/\RowI w' w.heap.size v' l/\Below w.heap.size w w':=by
 rcases zaf h with ⟨rfl,hn⟩ | ⟨g,cap,rfl,hB,hg,hc,hcell⟩
 · obtain rfl:l=[]:=List.eq_nil_of_length_eq_zero hn;refine (AnyE.slices_Clone_nil (P:=prog) Tryz.cloneI 0 0 w).mono ?_;rintro e w' ⟨rfl,rfl⟩;exact ⟨_,rfl,World.ownsRow_nil _ _ _ _,br⟩
 · obtain ⟨i0,hi,hz0,hz1,hz2⟩:=zbw;have:=AnyE.slices_Clone (P:=prog) Tryz.cloneI i0 _ 3 24 hi hz0 hz1 hz2 rfl (by decide) Tryz.sizeOf103 g 0 l.length cap (l.flatMap encI) w h.1 (by unfold maxLen;omega) (by omega) (fun j u hj=>by rw[Nat.zero_add];exact hcell j u hj) (fun u hu=>by
    rw[List.mem_flatMap]at hu;obtain ⟨x,_,hx⟩:=hu;exact ziy x u hx)
   refine Calls.mono this ?_;rintro e w' ⟨v',rfl,hown,_,hb⟩;exact ⟨v',rfl,hown,hb⟩
theorem zmt (l:List Ids):Lib.idxBy (fun _ (_:Ids)=>false) l default = -1:=by
 unfold Lib.idxBy;generalize 0=i;induction l generalizing i with
 | nil=>rfl
 | cons x l ih=>
  unfold Lib.idxByFrom;rw[if_neg (by decide)];exact ih _
theorem zmu (fv:Value) (w:World):Calls prog 149 #[.slice none 0 0,fv] w fun e w'=>e=.returned (.int .i64 (-1))/\w'=w:=by
 go_enter func149,ntmps149
 go_wp2;refine wp_loop_rounds 1 ?_;rw[rounds_succ];go_wp2;go_ret;exact ⟨rfl,rfl⟩
theorem zmK:∀args w,(callFunc 98 args).run prog w=.ok (.enter 98 args) w:=enters_of func98 (by kernel_rfl) rfl
theorem zjf (l:List Ids) (v:Value) (B p:Nat) (w:World) (h:RowI w B v l) (hl:l.length<=100000) (hp:Cell3I w p ⟨0,0,0⟩) :
    Calls prog 149 #[v,.func (.func 98) #[] #[.pointer (some ⟨p,0,none⟩)]] w fun e w'=>e=.returned (.int .i64 (-1))/\Below w.heap.size w w':=by
 rcases zaf h with ⟨rfl,hn⟩ | ⟨g,cap,rfl,hB,hg,hc,hcell⟩
 · refine (zmu _ w).mono ?_;rintro e w' ⟨rfl,rfl⟩;exact ⟨rfl,br⟩
 · have:=AnyQ.slices_IndexFunc (P:=prog) Tryz.idxI 3 Tryz.isAgg103 Tryz.sizeOf103 encI zbJ (fun _=>false) 98 #[.pointer (some ⟨p,0,none⟩)] zmK g 0 l.length cap l w
    (fun W x hW=>(zeq p x W ⟨zaa hp.1 hW,zaa hp.2.1 hW,zaa hp.2.2 hW⟩).mono fun e w' h=>⟨h.1,hW.trans (h.2.mono hW.size)⟩) nL (by omega) hg (fun j hj i v hi=>by
     have hi3:i<3:=by
      have:=(List.getElem?_eq_some_iff.1 hi).1;exact this
     rw[Nat.zero_add];refine hcell (j*3+i) v ?_;rw[zaH zbJ l (j*3+i) (by omega),show (j*3+i) / 3=j from by omega,show (j*3+i) % 3=i from by omega,List.getD_eq_getElem?_getD];rw[getElem!_pos l j hj]at hi;rw[List.getElem?_eq_getElem hj];exact hi)
   rw[List.take_length,zmt]at this;exact this
theorem zfx (l:List Ids) (v:Value) (B p:Nat) (w:World) (h:RowI w B v l) (hl:l.length<=100000) (hp:Cell3I w p ⟨0,0,0⟩) :
    Calls prog 96 #[v,.func (.func 98) #[] #[.pointer (some ⟨p,0,none⟩)]] w fun e w'=>e=.returned v/\Below w.heap.size w w':=by
 have HI:=hid (zjf l v B p w h hl hp);clear h hp;go_enter func96,ntmps96
 go_wp2_with fail
 refine HI.out.mono ?_;rintro e w1 ⟨rfl,hb⟩;go_wp2;go_ret;exact ⟨rfl,hb⟩
theorem zfd (l:List Ids) (v:Value) (B R:Nat) (w:World) (hR:w.cell? ⟨R,3,none⟩=some v) (h:RowI w B v l) (hl:l.length<=100000) :
    Calls prog 38 #[.pointer (some ⟨R,0,none⟩),.agg #[.int .i64 0,.int .i64 0,.int .i64 0]] w fun e w'=>∃v',e=.returned v'/\RowI w' w.heap.size v' l/\Below w.heap.size w w':=by
 obtain ⟨wa,hwa⟩:∃wa,w.alloc (.cells #[.int .i64 0,.int .i64 0,.int .i64 0] 103)=wa:=⟨_,rfl⟩;have hba:Below w.heap.size w wa:=(by rw[<-hwa];exact br.alloc nL _);have hx:Cell3I wa w.heap.size ⟨0,0,0⟩:=(by rw[<-hwa];exact ⟨by simp,by simp,by simp⟩);have hRa:=zaa hR hba;have HC:=hid (zcR l v B wa (h.below hba) hl);have HX:=hid hx;have HB:=hid hba;clear hx hba h hR;go_enter func38,ntmps38
 go_wp2_with fail
 refine HC.out.mono ?_;rintro e w1 ⟨v1,rfl,hrow,hb1⟩;have HD:=hid (zfx l v1 _ w.heap.size w1 hrow hl ⟨zaa HX.out.1 hb1,zaa HX.out.2.1 hb1,zaa HX.out.2.2 hb1⟩);have HROW:=hid hrow;clear hrow;go_wp2_with fail
 refine HD.out.mono ?_;rintro e w2 ⟨rfl,hb2⟩;go_wp2;go_ret;refine ⟨v1,rfl,(HROW.out.below hb2).le HB.out.size,?_⟩;have h2:=hb1.trans (hb2.mono hb1.size);exact HB.out.trans (h2.mono HB.out.size)
end Go.Proofs.YtaeiifngjglchaaGreatDoor
end
section
namespace Go.Proofs.YtaeiifngjglchaaGreatDoor
open Go.Proofs.Tryz
open Go.RowKit Go.Lib Go.Sort
section
variable {α:Type} [Inhabited α] [DecidableEq α]
theorem zem (k:Nat) (hk0:0<k) (aE:∀w,(isAgg 62).run prog w=.ok true w) (zE:∀w,(Go.sizeOf 62).run prog w=.ok k w) (enc:α->List Value) (hE:∀x y w,(binOp .eql 62 (.agg (enc x).toArray) (.agg (enc y).toArray)).run prog w=.ok (.bool (decide (x=y))) w) (hN:∀x y w,(binOp .neq 62 (.agg (enc x).toArray) (.agg (enc y).toArray)).run prog w=.ok (.bool (!decide (x=y))) w)
    (blk cap B:Nat) (d:Array α) (w0:World) (hk:∀x,(enc x).length=k) (h1:∀x,∀v∈enc x,v.oneCell'=true) (hsz:d.size<1000000) (zc:Array Value) (hz:∀w,(zeroValue 62).run prog w=.ok (.agg zc) w) (hzk:zc.size=k) (hz1:∀v∈zc,v.oneCell'=true)
    (hown:w0.ownsRow B 62 k (.slice (some ⟨blk,0,none⟩) d.size cap) d.size (d.toList.flatMap enc)) :
    Calls prog 71 #[.slice (some ⟨blk,0,none⟩) d.size cap] w0 fun e w'=>
     e=.returned (.slice (some ⟨blk,0,none⟩) (compactUpTo d d.size).length cap)/\w'.ownsRow B 62 k (.slice (some ⟨blk,0,none⟩) (compactUpTo d d.size).length cap) (compactUpTo d d.size).length ((compactUpTo d d.size).flatMap enc)/\Fr w0 w' (fun j=>j=blk):=by
 have hmix:=mixed;obtain ⟨hH,hblk,_⟩:=zbk hk rfl hown;have hcap:d.size<=cap:=by
  rcases hown.2 with ⟨h,_⟩ | ⟨_,_,_,hv,_,_,h,_⟩
  · cases h
  · cases hv;exact h
 have R:RowK enc k w0 blk 0 d:=⟨hk,h1,hH,hblk⟩;have S0:Aside (SWK enc k w0 blk 0 d w0):=SWK.start hH;have HOWN:=hid hown;have HE:=hid hE;have HNE:=hid hN;have same:∀W,SWK enc k w0 blk 0 d W->(∀j,j<d.size->keeps d j=true)->Ending.returned (.slice (some ⟨blk,0,none⟩) d.size cap)=.returned (.slice (some ⟨blk,0,none⟩) (compactUpTo d d.size).length cap)/\W.ownsRow B 62 k (.slice (some ⟨blk,0,none⟩) (compactUpTo d d.size).length cap) (compactUpTo d d.size).length ((compactUpTo d d.size).flatMap enc)/\Fr w0 W (fun j=>j=blk):=by
  intro W hS hall;have e:compactUpTo d d.size=d.toList:=(by rw[compactUpTo_all d _ hall,range_map_get]);rw[e,Array.length_toList];have:=za5 hk rfl HOWN.out rfl hS;exact ⟨rfl,this.1,this.2⟩
 have SAME:=hid same;clear hown hE hN same;by_cases h2:d.size<2
 · have h2z:(d.size:Int)<2:=(by omega);go_enter func71,ntmps71
   go_wp2;go_ret;exact SAME.out _ S0.out (fun j hj=>keeps_lt_one d j (by omega))
 · have h2z:¬(d.size:Int)<2:=(by omega);go_enter func71,ntmps71
   go_wp2;go_loopg [3] d.size (fun gx s5 wr=>∃q:Nat,1<=q/\q<=d.size/\d.size-q<=gx/\s5=.int .i64 q/\Aside (SWK enc k w0 blk 0 d wr)/\Hid (∀j,j<q->keeps d j=true))
   case atStart=>exact ⟨1,nL,by omega,by omega,rfl,S0,keeps_lt_one d⟩
   case round=>
    clear S0;obtain ⟨q,hq1,hq,hg,rfl,S1,HALL⟩:=hrel;by_cases hlt:q<d.size
    · obtain ⟨qp,rfl⟩:∃qp,q=qp+1:=⟨q-1,by omega⟩;have hltz:(qp:Int)+1<(d.size:Int):=(by omega);have ea:((qp:Int)+1).toNat=qp+1:=(by omega);have pa:(0:Int)<=(qp:Int)+1:=(by omega);have ra:IntKind.i64.wrap ((qp:Int))=(qp:Int):=(wI (by omega));have bc:(qp:Int)<(d.size:Int):=(by omega);obtain ⟨x,hx⟩:∃x,x=d[qp+1]!:=⟨_,rfl⟩;obtain ⟨y,hy⟩:∃x,x=d[qp]!:=⟨_,rfl⟩;have la:=S1.out.ld R rfl prog (qp+1) (by omega);have lb:=S1.out.ld R rfl prog qp (by omega);rw[<-hx,Nat.zero_add]at la;rw[<-hy,Nat.zero_add]at lb;have hc:=HE.out x y;have XY:=hid (And.intro hx hy);clear hx hy;by_cases hxy:x=y
      · rw[dT hxy]at hc;have hdup:keeps d (qp+1)=false:=keeps_neg (by omega) (by rw[Nat.add_sub_cancel,<-XY.out.1,<-XY.out.2,hxy]);have HDUP:=hid hdup;clear hdup hxy;go_wp2_with fail
        go_quiet_grown (fail)
        have S2:Aside (SWK enc k w0 blk 0 d (grow (wr.drewN nq) osq)):=S1.out.grown nq osq;clear la lb hc S1;generalize grow (wr.drewN nq) osq=w2 at S2 ⊢;clear nq osq;go_wp2;generalize hn2:d.size-(qp+1)=n2;generalize cap-(qp+1)=c2;have hn2a:qp+1+n2<=d.size:=(by omega);have hn2b:d.size<=qp+1+n2:=(by omega);clear hn2;go_loopg [3,5] n2 (fun gx s5 s7 wr2=>∃(kk kp:Nat) (dk:Array α),s5=.int .i64 kk/\s7=.int .i64 ((kp:Int)+1)/\kp+1<=n2/\n2-(kp+1)<=gx/\Aside (SWK enc k w0 blk 0 dk wr2)/\Hid (CompInv d (qp+1+(kp+1)) kk dk))
        case atStart=>exact ⟨qp+1,0,d,by go_num,rfl,by omega,by omega,S2,CompInv.start HALL.out HDUP.out⟩
        case round=>
         clear S2;obtain ⟨kk,kp,dk,rfl,rfl,hkn,hg2,S1,HCI⟩:=hrel;have hkk:=HCI.out.lt;have hds:=HCI.out.size;by_cases hlt2:kp+1<n2
         · have hltz2:(kp:Int)+1<(n2:Int):=(by omega);have ea:((kp:Int)+1).toNat=kp+1:=(by omega);have pa:(0:Int)<=(kp:Int)+1:=(by omega);have ra:IntKind.i64.wrap ((kp:Int))=(kp:Int):=(wI (by omega));have bc:(kp:Int)<(n2:Int):=(by omega);have bk:(kk:Int)<(d.size:Int):=(by omega);obtain ⟨u,hu⟩:∃x,x=dk[qp+1+(kp+1)]!:=⟨_,rfl⟩;obtain ⟨v,hv⟩:∃x,x=dk[qp+1+kp]!:=⟨_,rfl⟩;have la:=S1.out.ld R hds prog (qp+1+(kp+1)) (by omega);have lb:=S1.out.ld R hds prog (qp+1+kp) (by omega);rw[<-hu,Nat.zero_add,Nat.add_mul]at la;rw[<-hv,Nat.zero_add,Nat.add_mul]at lb;have hc:=HNE.out u v;have hud:u=d[qp+1+(kp+1)]!:=(by rw[hu];exact HCI.out.high _ (by omega));have hvd:v=d[qp+1+(kp+1)-1]!:=(by rw[hv,show qp+1+(kp+1)-1=qp+1+kp from by omega];exact HCI.out.high _ (by omega));have UV:=hid (And.intro hud hvd);clear hu hv hud hvd;by_cases huv:u=v
           · rw[dT huv]at hc;have HCI2:=hid (HCI.out.skip (keeps_neg (by omega) (by rw[<-UV.out.1,<-UV.out.2,huv])));clear huv;go_wp2_with fail
             go_quiet_grown (fail)
             have S2:Aside (SWK enc k w0 blk 0 dk (grow (wr.drewN nq) osq)):=S1.out.grown nq osq;clear la lb hc S1;generalize grow (wr.drewN nq) osq=w2 at S2 ⊢;clear nq osq;go_wp2;go_roundg (n2-(kp+1+1))
             case measure=>omega
             case rel=>exact ⟨kk,kp+1,dk,rfl,by go_num,by omega,nL,S2,HCI2⟩
           · rw[dF huv]at hc;have HCI2:=hid (HCI.out.keep (by omega) (keeps_pos (by rw[<-UV.out.1,<-UV.out.2];exact huv)));rw[<-UV.out.1]at HCI2;clear huv;go_wp2_with fail
             go_quiet_grown (fail)
             have S2:Aside (SWK enc k w0 blk 0 dk (grow (wr.drewN nq) osq)):=S1.out.grown nq osq;clear la lb hc S1;generalize grow (wr.drewN nq) osq=w2 at S2 ⊢;clear nq osq;have la:=S2.out.load R hds prog (qp+1+(kp+1)) (by omega);rw[show dk[qp+1+(kp+1)]! = u from by rw[UV.out.1];exact HCI.out.high _ (by omega),Nat.zero_add,Nat.add_mul]at la;have ls:=SWK.st S2.out R hds prog kk (by omega) u;have S3:Aside _:=SWK.lay S2.out hk hblk kk (by omega) u;rw[Nat.zero_add]at ls S3;have hul:(enc u).length=k:=hk u;clear S2;generalize enc u=cu at la ls S3 hul ⊢;go_wp2;go_roundg (n2-(kp+1+1))
             case measure=>omega
             case rel=>exact ⟨kk+1,kp+1,dk.setIfInBounds kk u,by go_num,by go_num,by omega,nL,S3,HCI2⟩
         · have hltz2:¬(kp:Int)+1<(n2:Int):=(by omega);have hci:=HCI.out;rw[show qp+1+(kp+1)=d.size from by omega]at hci;have HCI2:=hid hci;clear hci;have hH2:=S1.out.holds hblk hH hds;have hcl:∀ty,(Builtin.clear_ #[37] ty #[.slice (some ⟨blk,kk*k,none⟩) (d.size-kk) (cap-kk)]).run prog wr=.ok (.tuple #[]) (wr.setCells blk (kk*k) (Builtin.zeroCells zc (d.size-kk)).toList):=by
            intro ty;have hbd:kk*k+(d.size-kk)*k=d.size*k:=(by rw[<-Nat.add_mul];congr 1;omega);refine zdE wr _ _ ty (.agg zc) underlying37 hz hz1 (by show 0<zc.size;omega) blk (kk*k) _ _ (by omega) (fun j hj=>?_) (fun j hj=>?_)
            · have:=(hH2 (kk*k+j) (by rw[size_flatK,hds];rw[show (Value.agg zc).cells.size=k from hzk]at hj;omega)).1;rw[Nat.zero_add]at this;rw[this];rfl
            · have:=(hH2 (kk*k+j) (by rw[size_flatK,hds];rw[show (Value.agg zc).cells.size=k from hzk]at hj;omega)).2;rw[Nat.zero_add]at this;exact this
           have bk:(kk:Int)<=(d.size:Int):=(by omega);have bkc:¬cap=kk:=(by omega);have HCL:=hid hkk;clear hH2 hkk;go_wp2;go_ret;have how:=za5 hk rfl HOWN.out hds S1.out;have hlen:(compactUpTo d d.size).length=kk:=HCI2.out.len;have hpre:=CompInv.prefix_ HCI2.out;have hop:=zeB hk (by rw[Array.length_toList,hds]) how.1 (m:=kk) (by have:=HCI2.out.lt;omega) (Builtin.zeroCells zc (d.size-kk)).toList;rw[hpre]at hop;rw[hlen];exact ⟨rfl,hop,how.2.then_ (zbV blk _ _ _) fun _ h=>.inl h⟩
      · rw[dF hxy]at hc;have hkeep:keeps d (qp+1)=true:=keeps_pos (by rw[Nat.add_sub_cancel,<-XY.out.1,<-XY.out.2];exact hxy);have hall:∀j,j<qp+1+1->keeps d j=true:=fun j hj=>by
         by_cases e:j=qp+1
         · rw[e];exact hkeep
         · exact HALL.out j (by omega)
        have HALL2:=hid hall;clear hkeep hall hxy;go_wp2_with fail
        go_quiet_grown (fail)
        have S2:Aside (SWK enc k w0 blk 0 d (grow (wr.drewN nq) osq)):=S1.out.grown nq osq;clear la lb hc S1;generalize grow (wr.drewN nq) osq=w2 at S2 ⊢;clear nq osq;go_wp2;go_roundg (d.size-(qp+1+1))
        case measure=>omega
        case rel=>exact ⟨qp+1+1,by omega,by omega,nL,by go_num,S2,HALL2⟩
    · obtain rfl:q=d.size:=(by omega);have hltz:¬(d.size:Int)<(d.size:Int):=(by omega);go_wp2;go_ret;exact SAME.out _ S1.out HALL.out
end
end Go.Proofs.YtaeiifngjglchaaGreatDoor
end
section
namespace Go.Proofs.YtaeiifngjglchaaGreatDoor
open Go.Proofs.Tryz
open Go.RowKit Go.Lib Tv Go.Sort Mg
theorem zef {β:Type} [Inhabited β] {lt:β->β->Bool} (hT:∀x y,lt x y=false->lt y x=false->x=y) {r:List β} (hs:SortedIn lt 0 r.length r.toArray) (hn:r.Nodup):Rise lt r:=by
 unfold Rise;rw[List.pairwise_iff_getElem];intro i j hi hj hij;have h1:lt (r.toArray[j]!) (r.toArray[i]!)=false:=hs i j (Nat.zero_le _) hij hj;rw[getElem!_pos r.toArray j (by simpa using hj),getElem!_pos r.toArray i (by simpa using hi)]at h1;simp only[List.getElem_toArray]at h1;cases h2:lt r[i] r[j] with
 | true=>rfl
 | false=>
  have:=hT _ _ h2 h1;have:=(List.getElem_inj hn).1 this;omega
theorem ltM_eq (x y:VTm) (h1:ltOf cmpM x y=false) (h2:ltOf cmpM y x=false):x=y:=by
 unfold ltOf cmpM cmpT at h1 h2;rw[decide_eq_false_iff_not,zbv]at h1 h2;rcases zeu (shw x.1) (shw y.1) with h | h | h
 · exact absurd h h1
 · exact Subtype.ext (zbT x.2 y.2 h)
 · exact absurd h h2
theorem ltI_eq (x y:Ids) (h1:ltOf cmpIds x y=false) (h2:ltOf cmpIds y x=false):x=y:=by
 unfold ltOf at h1 h2;rw[decide_eq_false_iff_not,zeO]at h1 h2;unfold ILt at h1 h2;have a:x.a=y.a:=(by omega);have b:x.b=y.b:=(by omega);have c:x.c=y.c:=(by omega);obtain ⟨_,_,_⟩:=x;obtain ⟨_,_,_⟩:=y;simp only at a b c;simp only[a,b,c]
theorem zns (blk off size:Nat) (w:World):CmpLays prog 70 #[] encM 3 cmpM blk off size w:=by
 intro m os dk _ x y;exact Dr.calls_grow (zgF x.1 y.1 x.sml y.sml _)
theorem zk5:∀args w,(callFunc 74 args).run prog w=.ok (.enter 74 args) w:=enters_of func74 (by kernel_rfl) rfl
def Sorts {α:Type} [Inhabited α] (lt:α->α->Bool) (enc:α->List Value) (ty:TypeId) (k B:Nat) (v:Value) (l:List α) (w w':World):Prop:=
 ∃r:List α,w'.ownsRow B ty k v r.length (r.flatMap enc)/\r.length=l.length/\r.Perm l/\SortedIn lt 0 r.length r.toArray/\Fr w w' (fun j=>v.ownBlock=some j)
theorem zh1 {α:Type} [Inhabited α] {lt:α->α->Bool} {enc:α->List Value} {k:Nat} (hk:∀x,(enc x).length=k) {ty:TypeId} {B n g cap:Nat} {d:Array α} {w w':World} (hn:d.size=n) (h:w.ownsRow B ty k (.slice (some ⟨g,0,none⟩) n cap) n (d.toList.flatMap enc))
    {r:Array α} {m:Nat} {os:Array Obj} (hp:PermIn 0 d.size d r) (hs:SortedIn lt 0 d.size r) (hw:w'=sortWorldK enc k w g 0 m r os):Sorts lt enc ty k B (.slice (some ⟨g,0,none⟩) n cap) d.toList w w':=by
 have hrs:r.size=d.size:=hp.1;have how:=za5 hk hn h hrs ⟨m,os,hw⟩;refine ⟨r.toList,by rw[Array.length_toList,hrs,hn];exact how.1,by rw[Array.length_toList,Array.length_toList,hrs],?_,by rw[Array.length_toList,hrs];exact hs,how.2.mono fun j _ hj=>?_⟩
 · have h2:=hp.2.2;have e1:(r.extract 0 d.size).toList=r.toList:=(by rw[<-hrs];simp);have e2:(d.extract 0 d.size).toList=d.toList:=(by simp);rw[e1,e2]at h2;exact h2
 · rw[hj];rfl
theorem zfT {α:Type} [Inhabited α] {lt:α->α->Bool} {enc:α->List Value} {k:Nat} {ty:TypeId} {B:Nat} (w:World):Sorts lt enc ty k B (.slice none 0 0) [] w w:=
 ⟨[],World.ownsRow_nil _ _ _ _,rfl,List.Perm.refl _,fun _ j _ _ h=>absurd h (Nat.not_lt_zero j),Fr.refl _ _⟩
theorem zg6 (l:List VTm) (v:Value) (B:Nat) (w:World) (h:RowM w B v l) (hl:l.length<=100000) :
    Calls prog 69 #[v,.func (.func 70) #[] #[]] w fun e w'=>e=.returned (.tuple #[])/\Sorts (ltOf cmpM) encM 62 3 B v l w w':=by
 rcases zaf h with ⟨rfl,hn⟩ | ⟨g,cap,rfl,hB,hg,hc,_⟩
 · obtain rfl:l=[]:=List.eq_nil_of_length_eq_zero hn;refine (AnyF.slices_SortFunc_none (P:=prog) Tryz.sortT none 0 (.func (.func 70) #[] #[]) w).mono ?_;rintro e w' ⟨rfl,rfl⟩;exact ⟨rfl,zfT _⟩
 · obtain ⟨d,hd⟩:∃d:Array VTm,d.toList=l:=⟨l.toArray,by simp⟩;have hds:d.size=l.length:=(by rw[<-hd,Array.length_toList]);have hown:w.ownsRow B 62 3 (.slice (some ⟨g,0,none⟩) l.length cap) l.length (d.toList.flatMap encM):=(by rw[hd];exact h);obtain ⟨hH,_,_⟩:=zbk zbe hds hown;have hS:=AnyQ.slices_SortFunc (P:=prog) Tryz.sortT 3 Tryz.isAgg62 Tryz.sizeOf62 encM zbe zbu cmpM swoM 70 #[] g 0 cap d w zhH (zns _ _ _ _) hH hg (by omega);rw[hds]at hS;refine Calls.mono hS ?_;rintro e w' ⟨rfl,r,m,os,hp,hs,hw⟩;rw[<-hds]at hp hs;have:=zh1 (lt:=ltOf cmpM) zbe hds hown hp hs hw;rw[hd]at this;exact ⟨rfl,this⟩
theorem zg7 (l:List Ids) (v:Value) (B:Nat) (w:World) (h:RowI w B v l) (hl:l.length<=100000) :
    Calls prog 73 #[v,.func (.func 74) #[] #[]] w fun e w'=>e=.returned (.tuple #[])/\Sorts (ltOf cmpIds) encI 103 3 B v l w w':=by
 rcases zaf h with ⟨rfl,hn⟩ | ⟨g,cap,rfl,hB,hg,hc,_⟩
 · obtain rfl:l=[]:=List.eq_nil_of_length_eq_zero hn;refine (AnyF.slices_SortFunc_none (P:=prog) Tryz.sortI none 0 (.func (.func 74) #[] #[]) w).mono ?_;rintro e w' ⟨rfl,rfl⟩;exact ⟨rfl,zfT _⟩
 · obtain ⟨d,hd⟩:∃d:Array Ids,d.toList=l:=⟨l.toArray,by simp⟩;have hds:d.size=l.length:=(by rw[<-hd,Array.length_toList]);have hown:w.ownsRow B 103 3 (.slice (some ⟨g,0,none⟩) l.length cap) l.length (d.toList.flatMap encI):=(by rw[hd];exact h);obtain ⟨hH,_,_⟩:=zbk zbJ hds hown;have hS:=AnyQ.slices_SortFunc (P:=prog) Tryz.sortI 3 Tryz.isAgg103 Tryz.sizeOf103 encI zbJ ziy cmpIds swoI 74 #[] g 0 cap d w zk5 (zi7 _ _ _ _) hH hg (by omega);rw[hds]at hS;refine Calls.mono hS ?_;rintro e w' ⟨rfl,r,m,os,hp,hs,hw⟩;rw[<-hds]at hp hs;have:=zh1 (lt:=ltOf cmpIds) zbJ hds hown hp hs hw;rw[hd]at this;exact ⟨rfl,this⟩
theorem ziU (l:List Ids) (v:Value) (B:Nat) (w:World) (h:RowI w B v l) (hl:l.length<=100000) (hr:Rise (ltOf cmpIds) l) :
    Calls prog 73 #[v,.func (.func 74) #[] #[]] w fun e w'=>e=.returned (.tuple #[])/\RowI w' B v l/\Fr w w' (fun j=>v.ownBlock=some j):=by
 refine (zg7 l v B w h hl).mono ?_;rintro e w' ⟨rfl,r,hown,_,hp,hs,hf⟩;have hn:l.Nodup:=List.Pairwise.imp (fun {a b} hab e=>by rw[e,swoI.irrefl b]at hab;cases hab) hr;have hrr:=zef ltI_eq hs (hp.nodup_iff.2 hn);obtain rfl:r=l:=zcW swoI hrr hr fun x=>hp.mem_iff;exact ⟨rfl,hown,hf⟩
theorem zfz (p:Option Addr) (cap:Nat) (w:World):Calls prog 71 #[.slice p 0 cap] w fun e w'=>e=.returned (.slice p 0 cap)/\w'=w:=by
 go_enter func71,ntmps71
 go_wp2;go_ret;exact ⟨rfl,rfl⟩
theorem zen (l:List VTm) (v:Value) (B:Nat) (w:World) (h:RowM w B v l) (hl:l.length<=100000) (hs:SortedIn (ltOf cmpM) 0 l.length l.toArray) :
    Calls prog 71 #[v] w fun e w'=>∃v' r,e=.returned v'/\RowM w' B v' r/\Rise (ltOf cmpM) r/\(∀x,x∈r↔x∈l)/\Fr w w' (fun j=>v.ownBlock=some j):=by
 rcases zaf h with ⟨rfl,hn⟩ | ⟨g,cap,rfl,hB,hg,hc,_⟩
 · obtain rfl:l=[]:=List.eq_nil_of_length_eq_zero hn;refine (zfz none 0 w).mono ?_;rintro e w' ⟨rfl,rfl⟩;exact ⟨_,[],rfl,World.ownsRow_nil _ _ _ _,List.Pairwise.nil,fun x=>Iff.rfl,Fr.refl _ _⟩
 · obtain ⟨d,hd⟩:∃d:Array VTm,d.toList=l:=⟨l.toArray,by simp⟩;have hds:d.size=l.length:=(by rw[<-hd,Array.length_toList]);have hown:w.ownsRow B 62 3 (.slice (some ⟨g,0,none⟩) d.size cap) d.size (d.toList.flatMap encM):=(by rw[hd,hds];exact h);have hF:=zem 3 (by decide) Tryz.isAgg62 Tryz.sizeOf62 encM zhE zma g cap B d w zbe zbu (by omega) _ Tryz.zeroValue62 rfl (by decide) hown;rw[hds]at hF;refine Calls.mono hF ?_;rintro e w' ⟨rfl,hrow,hf⟩;have hsd:SortedIn (ltOf cmpM) 0 d.size d:=(by rw[hds,show d=l.toArray from by rw[<-hd]];exact hs);have hcr:=zbz swoM ltM_eq d hsd l.length (by omega);refine ⟨_,compactUpTo d l.length,rfl,hrow,hcr.1,fun x=>?_,hf.mono fun j _ hj=>by rw[hj];rfl⟩;rw[hcr.2,<-hd,zkk,hds,hd]
end Go.Proofs.YtaeiifngjglchaaGreatDoor
end
section
namespace Go.Proofs.YtaeiifngjglchaaGreatDoor
open Go.Proofs.Tryz
open Go.RowKit Go.Lib Tv Go.Sort
theorem zd9 (n:Int) (h1:1<=n) (h2:n<=1000) (w:World):Calls prog 137 #[.int .i64 n] w fun e w'=>e=.returned (.bool false)/\w'=w:=by
 have d1:decide (n<1)=false:=dF (by omega);have d2:decide (1000<n)=false:=dF (by omega);go_enter func137,ntmps137
 go_wp2;go_ret;exact ⟨rfl,rfl⟩
theorem zoj:∀args w,(callFunc 137 args).run prog w=.ok (.enter 137 args) w:=enters_of func137 (by kernel_rfl) rfl
def Num (x:Ids):Prop:=(1<=x.a/\x.a<=1000)/\(1<=x.b/\x.b<=1000)/\(1<=x.c/\x.c<=1000)
theorem zjg (p:Nat) (x:Ids) (w:World) (hp:Cell3I w p x) (hx:Num x) :
    Calls prog 215 #[.slice (some ⟨p,0,none⟩) 3 3,.func (.func 137) #[] #[]] w fun e w'=>e=.returned (.int .i64 (-1))/\w'=w:=by
 obtain ⟨a1,a2,a3⟩:=hp;obtain ⟨⟨h1,h2⟩,⟨h3,h4⟩,⟨h5,h6⟩⟩:=hx;have H1:=hid fun w=>zd9 x.a h1 h2 w;have H2:=hid fun w=>zd9 x.b h3 h4 w;have H3:=hid fun w=>zd9 x.c h5 h6 w;clear h1 h2 h3 h4 h5 h6;have hent:=zoj;obtain ⟨xa,xb,xc⟩:=x;simp only at a1 a2 a3 H1 H2 H3;go_enter func215,ntmps215
 go_wp2;go_loopw [8] (fun i wr=>Hid (wr=w)/\∃(k:Nat),i=.int .i64 k/\(k=0\/k=1\/k=2\/k=3)) (fun i _=>3-(RowKit.intOf i).toNat)
 case atStart=>exact ⟨(rfl:w=w),0,rfl,.inl rfl⟩
 case round=>
  obtain ⟨hw,k,rfl,hk⟩:=hrel;obtain rfl:wr=w:=hw.out;clear hw;rcases hk with rfl | rfl | rfl | rfl
  · go_wp2_with fail
    refine (H1.out _).mono ?_;rintro e w1 ⟨rfl,rfl⟩;go_wp2;go_round
    case measure=>decide
    case rel=>exact ⟨trivial,1,rfl,.inr (.inl rfl)⟩
  · go_wp2_with fail
    refine (H2.out _).mono ?_;rintro e w1 ⟨rfl,rfl⟩;go_wp2;go_round
    case measure=>decide
    case rel=>exact ⟨trivial,2,rfl,.inr (.inr (.inl rfl))⟩
  · go_wp2_with fail
    refine (H3.out _).mono ?_;rintro e w1 ⟨rfl,rfl⟩;go_wp2;go_round
    case measure=>decide
    case rel=>exact ⟨trivial,3,rfl,.inr (.inr (.inr rfl))⟩
  · go_wp2;go_ret;exact ⟨rfl,rfl⟩
theorem zhJ (p:Nat) (x:Ids) (w:World) (hp:Cell3I w p x) (hx:Num x) :
    Calls prog 138 #[.slice (some ⟨p,0,none⟩) 3 3,.func (.func 137) #[] #[]] w fun e w'=>e=.returned (.bool false)/\w'=w:=by
 have HI:=hid (zjg p x w hp hx);clear hp hx;go_enter func138,ntmps138
 go_wp2_with fail
 refine HI.out.mono ?_;rintro e w1 ⟨rfl,rfl⟩;go_wp2;go_ret;exact ⟨rfl,rfl⟩
end Go.Proofs.YtaeiifngjglchaaGreatDoor
end
