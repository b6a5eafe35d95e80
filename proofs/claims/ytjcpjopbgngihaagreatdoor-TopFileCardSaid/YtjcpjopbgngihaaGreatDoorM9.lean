/- Proved on the way: Words for memory, and what the small fun; front.New makes a Dict of texts that may; What Bytes of a Dict writes; What Len, Extract of a Dict answer; Bytes as a string; The print tool's kinds of data, and my w; Package wave: New of numbers that fit; s; What the document's Bytes answers; What bytes are the bytes of: no program. Each theorem states its own conditions. -/
import Derived.Test.YtjcpjopbgngihaaGreatDoorM4
import Derived.Test.YtjcpjopbgngihaaGreatDoorM3
set_option maxHeartbeats 16000000
set_option maxRecDepth 1000000
section
namespace Go.Proofs.YtjcpjopbgngihaaGreatDoor.Fd
open Tryz
open Go.RowKit Go.Lib Fp
structure Seg (w:World) (A:Option Addr) (n:Nat) (xs:List Value):Prop where
 len:xs.length=n
 cell:0<n->∃ad,A=some ad/\∀j u,xs[j]?=some u->w.cell? (ad.add j)=some u
theorem Seg.below {w w':World} {A:Option Addr} {n:Nat} {xs:List Value} (h:Seg w A n xs) (hb:Below w.heap.size w w'):Seg w' A n xs:=
 ⟨h.len,fun hn=>by
  obtain ⟨ad,e,hc⟩:=h.cell hn;exact ⟨ad,e,fun j u hu=>(hb.cell (World.block_lt_of_cell? w _ (hc j u hu))).trans (hc j u hu)⟩⟩
theorem Seg.at_ {w:World} {A:Option Addr} {n:Nat} {xs:List Value} (h:Seg w A n xs) {k:Nat} (hk:k<n):∃ad,A=some ad/\w.cell? (ad.add k)=some (xs[k]'(by rw[h.len];exact hk)):=by
 obtain ⟨ad,e,hc⟩:=h.cell (by omega);exact ⟨ad,e,hc k _ (List.getElem?_eq_getElem _)⟩
theorem Seg.of_own {w:World} {base:Nat} {e:TypeId} {A:Option Addr} {n c:Nat} {xs:List Value} (h:w.ownsRow base e 1 (.slice A n c) n xs):Seg w A n xs:=by
 refine ⟨by rw[h.1,Nat.mul_one],fun hn=>?_⟩;rcases h.2 with ⟨hv,h0⟩ | ⟨g,cap,cur,hv,_⟩
 · omega
 · injection hv with hA _ _;subst hA;exact ⟨_,rfl,h.cells (g:=g) rfl⟩
theorem Seg.drewN {w:World} {A:Option Addr} {n:Nat} {xs:List Value} (h:Seg w A n xs) (k:Nat):Seg (w.drewN k) A n xs:=h.below ⟨rfl,rfl,rfl,nL,fun _ _=>rfl⟩
def sts (l:List ByteArray):List Value:=l.map .string
theorem zn9 (l:List ByteArray):∀u∈sts l,u.oneCell'=true:=by
 intro u hu;obtain ⟨b,_,rfl⟩:=List.mem_map.1 hu;rfl
theorem Seg.str {w:World} {A:Option Addr} {l:List ByteArray} (h:Seg w A l.length (sts l)) {k:Nat} (hk:k<l.length):∃ad,A=some ad/\w.cell? (ad.add k)=some (.string (l[k]'hk)):=by
 obtain ⟨ad,e,hc⟩:=h.at_ hk;refine ⟨ad,e,hc.trans ?_⟩;simp[sts]
def bys (l:List UInt8):List Value:=l.map fun b=>.int .u8 (b.toNat:Int)
theorem zbo (l:List UInt8):(bys l).length=l.length:=by simp[bys]
theorem zaV (l:List UInt8):∀u∈bys l,u.oneCell'=true:=by
 intro u hu;obtain ⟨b,_,rfl⟩:=List.mem_map.1 hu;rfl
theorem zej (l r:List UInt8):bys (l++r)=bys l++bys r:=by simp[bys]
theorem Seg.byte {w:World} {A:Option Addr} {l:List UInt8} (h:Seg w A l.length (bys l)) {k:Nat} (hk:k<l.length):∃ad,A=some ad/\w.cell? (ad.add k)=some (.int .u8 ((l[k]'hk).toNat:Int)):=by
 obtain ⟨ad,e,hc⟩:=h.at_ hk;refine ⟨ad,e,hc.trans ?_⟩;simp[bys]
theorem info3:(prog.info? 3).map (fun i=>(i.zero,i.size,i.bytes))=some (some (.int .i64 0),1,8):=by kernel_rfl
theorem info5:(prog.info? 5).map (fun i=>(i.zero,i.size,i.bytes))=some (some (.int .u8 0),1,1):=by kernel_rfl
theorem info9:(prog.info? 9).map (fun i=>(i.zero,i.size,i.bytes))=some (some (.string ByteArray.empty),1,16):=by kernel_rfl
theorem add_zero' (r m:Nat):(⟨r,0,none⟩:Addr).add m=⟨r,m,none⟩:=by unfold Addr.add;split<;>simp_all
theorem below_drewN' {B:Nat} {a w:World} (h:Below B a w) (n:Nat):Below B a (w.drewN n):=⟨h.os,h.tape,h.output,h.size,h.block⟩
theorem thn {a b c:World} (h:Below a.heap.size a b) (k:Below b.heap.size b c):Below a.heap.size a c:=h.trans (k.mono h.size)
theorem thn' {B:Nat} {a b c:World} (h:Below B a b) (hB:B<=b.heap.size) (k:Below b.heap.size b c):Below B a c:=h.trans (k.mono hB)
theorem zac {w:World} {b:Nat} {e:TypeId} {s n:Nat} {v:Value} {xs:List Value} (h:w.ownsRow b e s v n xs):∃A c,v=.slice A n c:=by
 rcases h.2 with ⟨rfl,rfl⟩ | ⟨g,cap,cur,rfl,_⟩
 · exact ⟨_,_,rfl⟩
 · exact ⟨_,_,rfl⟩
theorem own_ne {w:World} {b b':Nat} {e e':TypeId} {s s' n n':Nat} {v v':Value} {xs xs':List Value} (h:w.ownsRow b e s v n xs) (h':w.ownsRow b' e' s' v' n' xs') (hne:e≠e'):v.ownBlock=none\/v.ownBlock≠v'.ownBlock:=by
 rcases h.2 with ⟨rfl,_⟩ | ⟨g,cap,cur,rfl,_,hh,_⟩
 · exact .inl rfl
 · rcases h'.2 with ⟨rfl,_⟩ | ⟨g',cap',cur',rfl,_,hh',_⟩
   · exact .inr (by simp[Value.ownBlock])
   · refine .inr fun hk=>?_;have hgg:g=g':=(by simpa [Value.ownBlock] using hk);subst hgg;rw[hh]at hh';injection hh' with hh';injection hh' with _ ht;exact hne ht
theorem own_below {w w1:World} {base:Nat} {e:TypeId} {size n:Nat} {v:Value} {xs:List Value} (h:w.ownsRow base e size v n xs) (hb:Below w.heap.size w w1):w1.ownsRow base e size v n xs:=
 h.kept (row:=none) ⟨hb.os,hb.tape,hb.output,hb.size,fun i hi _=>hb.block i hi⟩ (by cases v.ownBlock<;>simp)
theorem za4 {P:Program} (w:World) (base:Nat) (t ty e:TypeId) (i:TypeInfo) (size:Nat) (ht:P.underlying t=some (.slice e)) (hi:P.info? e=some i)
    (v:Value) (n:Nat) (xs:List Value) (hown:w.ownsRow base e size v n xs) (c:Nat):(Builtin.append_ #[t,t] ty #[v,.slice none 0 c]).run P w=.ok v w:=by
 rcases hown.2 with ⟨rfl,rfl⟩ | ⟨g,cap,cur,rfl,_,_,hnc,_⟩
 · simp[Builtin.append_,run_underlying ht,sizeOf,typeInfo,hi,Builtin.lenOf,Builtin.firstCells]
 · simp[Builtin.append_,run_underlying ht,sizeOf,typeInfo,hi,Builtin.lenOf,Builtin.firstCells,hnc,storeCells]
theorem zah {P:Program} (w:World) {ops:Array Oper} {rest:List Oper} {o:Oper} {a:Act} {Q:Exit->Act->World->Prop} (hgd:o.guard=none) (s x:Operand) (t:TypeId)
    (ho:o.op=.call { callee:=.builtin .append,args:=#[s,x],argTypes:=#[t,t] })
    (base:Nat) (e:TypeId) (i:TypeInfo) (z:Value) (bytes:Nat) (ht:P.underlying t=some (.slice e)) (hi:P.info? e=some i) (hz:i.zero=some z)
    (hsize:i.size=1) (hby:i.bytes=bytes) (hzs:z.cells.size=1)
    (v:Value) (n:Nat) (xs:List Value) (hs:a.eval s=v) (hown:w.ownsRow base e 1 v n xs)
    (A:Option Addr) (m c:Nat) (news:List Value) (hx:a.eval x=.slice A m c) (hseg:Seg w A m news) (h1:∀u∈news,u.oneCell'=true)
    (h63:n+m<=maxLen) (hbytes:(n+m)*bytes<=140737488355328) (hbase:base<=w.heap.size)
    (h:∀v' w',w'.ownsRow base e 1 v' (n+m) (xs++news)->w.grownBy w' v.ownBlock->wpList P ops Q rest (a.put o.dst v') w'):wpList P ops Q (o::rest) a w:=by
 cases A with
 | none=>
  have hm:m=0:=by
   rcases Nat.eq_zero_or_pos m with h0 | h0
   · exact h0
   · obtain ⟨ad,e,_⟩:=hseg.cell h0;cases e
  subst hm;obtain rfl:news=[]:=List.eq_nil_of_length_eq_zero hseg.len;refine wpList_plain hgd fun K hK=>?_;have hrun:=za4 (P:=P) w base t o.type e i 1 ht hi v n xs hown c;unfold Oper.wp;simp[execOp,ho,resolve,invoke,builtin,hs,hx,hrun,Result.andThen];exact hK _ _ (h v w (by simpa using hown) (World.grownBy.refl w _))
 | some ad=>
  refine wpList_append_own w hgd s x t ho base e i z 1 bytes ht hi hz hsize hby hzs (by decide) v n xs hs hown ad m c news hx (by rw[hseg.len,Nat.mul_one]) ?_ h1 h63 hbytes hbase (fun v' w' h2 h3 _=>h v' w' h2 h3);intro j u hu;have hn0:0<m:=by
   have:=(List.getElem?_eq_some_iff.1 hu).1;rw[hseg.len]at this;omega
  obtain ⟨ad',e,hc⟩:=hseg.cell hn0;cases e
  exact hc j u hu
theorem zgk (a b:ByteArray) (w:World) (ha:a.size<=140737488351232) :
    Calls prog 90 #[.string a,.string b] w fun e w'=>e=.returned (.int .i64 (shr a.data.toList b.data.toList:Nat))/\∃n,w'=w.drewN n:=by
 go_enter func90,ntmps90
 go_wp2;go_loopw [5] (fun i wr=>∃k n:Nat,k<=a.size/\k<=b.size/\i=.int .i64 k/\Hid (a.data.toList.take k=b.data.toList.take k)/\wr=w.drewN n) (fun i _=>a.size-(intOf i).toNat)
 case atStart=>exact ⟨0,0,Nat.zero_le _,Nat.zero_le _,rfl,by show a.data.toList.take 0=b.data.toList.take 0;simp,rfl⟩
 case round=>
  obtain ⟨k,n,hka,hkb,rfl,HT,rfl⟩:=hrel;by_cases h1:k<a.size
  · by_cases h2:k<b.size
    · by_cases h3:a[k]=b[k]
      · have he:(((a[k].toNat:Nat):Int) == ((b[k].toNat:Nat):Int))=true:=(by rw[h3];simp);have HT2:Hid (a.data.toList.take (k+1)=b.data.toList.take (k+1)):=by
         show a.data.toList.take (k+1)=b.data.toList.take (k+1);rw[List.take_succ_eq_append_getElem (by simpa using h1),List.take_succ_eq_append_getElem (by simpa using h2),HT.out]
         congr 2
        clear h3 HT;go_wp2;repeat (go_quiet (fail);try go_wp2)
        go_roundw
        case rel=>exact ⟨k+1,_,by omega,by omega,by go_num,HT2,rfl⟩
        case measure=>simp[intOf];omega
      · have he:(((a[k].toNat:Nat):Int) == ((b[k].toNat:Nat):Int))=false:=by
         rw[beq_eq_false_iff_ne];intro e;exact h3 (UInt8.toNat_inj.1 (by omega))
        have HR:Hid (shr a.data.toList b.data.toList=k):=zbM _ _ k (by simpa using hka) (by simpa using hkb) HT.out (.inr (.inr ⟨by simpa using h1,by simpa using h2,h3⟩));clear h3 HT;go_wp2;repeat (go_quiet (fail);try go_wp2)
        go_ret;exact ⟨by rw[HR.out];rfl,_,World.drewN_drewN ..⟩
    · have HR:Hid (shr a.data.toList b.data.toList=k):=zbM _ _ k (by simpa using hka) (by simpa using hkb) HT.out (.inr (.inl (by simp;omega)));go_wp2;repeat (go_quiet (fail);try go_wp2)
      go_ret;exact ⟨by rw[HR.out];rfl,_,World.drewN_drewN ..⟩
  · have HR:Hid (shr a.data.toList b.data.toList=k):=zbM _ _ k (by simpa using hka) (by simpa using hkb) HT.out (.inl (by simp;omega));go_wp2;repeat (go_quiet (fail);try go_wp2)
    go_ret;exact ⟨by rw[HR.out];rfl,_,World.drewN_drewN ..⟩
theorem zdR (a b:ByteArray) (w:World) (ha:a.size<=140737488351232) :
    Calls prog 121 #[.string a,.string b] w fun e w'=>e=.returned (.int .i64 (shr a.data.toList b.data.toList:Nat))/\∃n,w'=w.drewN n:=by
 go_enter func121,ntmps121
 go_wp2;go_loopw [5] (fun i wr=>∃k n:Nat,k<=a.size/\k<=b.size/\i=.int .i64 k/\Hid (a.data.toList.take k=b.data.toList.take k)/\wr=w.drewN n) (fun i _=>a.size-(intOf i).toNat)
 case atStart=>exact ⟨0,0,Nat.zero_le _,Nat.zero_le _,rfl,by show a.data.toList.take 0=b.data.toList.take 0;simp,rfl⟩
 case round=>
  obtain ⟨k,n,hka,hkb,rfl,HT,rfl⟩:=hrel;by_cases h1:k<a.size
  · by_cases h2:k<b.size
    · by_cases h3:a[k]=b[k]
      · have he:(((a[k].toNat:Nat):Int) == ((b[k].toNat:Nat):Int))=true:=(by rw[h3];simp);have HT2:Hid (a.data.toList.take (k+1)=b.data.toList.take (k+1)):=by
         show a.data.toList.take (k+1)=b.data.toList.take (k+1);rw[List.take_succ_eq_append_getElem (by simpa using h1),List.take_succ_eq_append_getElem (by simpa using h2),HT.out]
         congr 2
        clear h3 HT;go_wp2;repeat (go_quiet (fail);try go_wp2)
        go_roundw
        case rel=>exact ⟨k+1,_,by omega,by omega,by go_num,HT2,rfl⟩
        case measure=>simp[intOf];omega
      · have he:(((a[k].toNat:Nat):Int) == ((b[k].toNat:Nat):Int))=false:=by
         rw[beq_eq_false_iff_ne];intro e;exact h3 (UInt8.toNat_inj.1 (by omega))
        have HR:Hid (shr a.data.toList b.data.toList=k):=zbM _ _ k (by simpa using hka) (by simpa using hkb) HT.out (.inr (.inr ⟨by simpa using h1,by simpa using h2,h3⟩));clear h3 HT;go_wp2;repeat (go_quiet (fail);try go_wp2)
        go_ret;exact ⟨by rw[HR.out];rfl,_,World.drewN_drewN ..⟩
    · have HR:Hid (shr a.data.toList b.data.toList=k):=zbM _ _ k (by simpa using hka) (by simpa using hkb) HT.out (.inr (.inl (by simp;omega)));go_wp2;repeat (go_quiet (fail);try go_wp2)
      go_ret;exact ⟨by rw[HR.out];rfl,_,World.drewN_drewN ..⟩
  · have HR:Hid (shr a.data.toList b.data.toList=k):=zbM _ _ k (by simpa using hka) (by simpa using hkb) HT.out (.inl (by simp;omega));go_wp2;repeat (go_quiet (fail);try go_wp2)
    go_ret;exact ⟨by rw[HR.out];rfl,_,World.drewN_drewN ..⟩
def OkAt (l:List ByteArray) (i:Nat):Prop:=∃h:i<l.length,1<=l[i].size/\l[i].size<=250/\(0<i->Op.bytesLess (l[i-1]'(by omega)).toList l[i].toList=true)
def May (l:List ByteArray):Prop:=l.length<=300/\∀i,i<l.length->OkAt l i
theorem zh7 (A:Option Addr) (n c:Nat) (news:List Value) (w:World) (h:Seg w A n news) (h1:∀u∈news,u.oneCell'=true) (hn:n<=300) :
    Calls prog 87 #[.slice A n c] w fun e w'=>∃v',e=.returned v'/\w'.ownsRow w.heap.size 9 1 v' n news/\Below w.heap.size w w':=by
 have q22:∀(w:World) (a:Option Addr) (n c n' c':Nat),(binOp .eql 41 (.slice a n c) (.slice none n' c')).run prog w=.ok (.bool a.isNone) w:=fun w a n c n' c'=>Lib.run_eql_slice_nil w _ _ a n c n' c' underlying41;obtain ⟨i0,hi,hz0,hz1,hz2⟩:=info_parts info9;cases A with
 | none=>
  have hn0:n=0:=by
   rcases Nat.eq_zero_or_pos n with h0 | h0
   · exact h0
   · obtain ⟨ad,e,_⟩:=h.cell h0;cases e
  subst hn0;obtain rfl:news=[]:=List.eq_nil_of_length_eq_zero h.len;clear h1 h;go_enter func87,ntmps87
  go_wp2;go_ret;exact ⟨_,rfl,World.ownsRow_nil _ _ _ _,br⟩
 | some ad=>
  have HS:=Lib.hid h;have H1:=Lib.hid h1;clear h h1;go_enter func87,ntmps87
  go_wp2_with (at_builtin;refine zah _ rfl _ _ 41 rfl w.heap.size 9 i0 (.string ByteArray.empty) 16 underlying41 hi hz0 hz1 hz2 rfl _ _ _ rfl (World.ownsRow_made w #[] 0 nL (Nat.zero_le _) (by simp)) (some ad) n c news rfl ?qc1 ?qc2 ?qc3 ?qc4 ?qc5 ?_)
  case qc1=>exact HS.out.below (br.alloc nL _)
  case qc2=>exact H1.out
  case qc3=>unfold maxLen;omega
  case qc4=>omega
  case qc5=>simp
  intro v' w1 hown hgrow;go_wp2;go_ret;refine ⟨v',rfl,by simpa using hown,?_⟩;exact ((Below.refl _ w).alloc nL _).grown hgrow (by simp) (by intro k hk;simp[Value.ownBlock]at hk;omega)
structure Dic (w:World) (g:Nat) (l:List ByteArray):Prop where
 ex:∃A c,w.heap[g]?=some (.cells #[.slice A l.length c] 148 (0,0))/\Seg w A l.length (sts l)
 may:May l
theorem Dic.lt {w:World} {g:Nat} {l:List ByteArray} (h:Dic w g l):g<w.heap.size:=by
 obtain ⟨A,c,hb,_⟩:=h.ex;exact (Array.getElem?_eq_some_iff.1 hb).1
theorem Dic.below {w w':World} {g:Nat} {l:List ByteArray} (h:Dic w g l) (hb:Below w.heap.size w w'):Dic w' g l:=by
 have hlt:=h.lt;refine ⟨?_,h.may⟩;obtain ⟨A,c,hg,h1⟩:=h.ex;exact ⟨A,c,(hb.block g hlt).trans hg,h1.below hb⟩
theorem zot (w1 w:World) (A1:Option Addr) (c1:Nat) (l:List ByteArray) (hm:May l) (hrow:w1.ownsRow w.heap.size 9 1 (.slice A1 l.length c1) l.length (sts l)) :
    Dic (w1.alloc (.cells #[.slice A1 l.length c1] 148)) w1.heap.size l:=by
 refine ⟨⟨A1,c1,heap_alloc_new w1 _,?_⟩,hm⟩;exact (Seg.of_own hrow).below (br.alloc nL _)
theorem zdO (s:ByteArray):s.toList.length=s.size:=by rw[Lib.toList_data,Array.length_toList];rfl
theorem znm {s:ByteArray} (h:s.size=0):s.toList=[]:=List.eq_nil_of_length_eq_zero (by rw[zdO,h])
theorem zaY {s:ByteArray} (h:1<=s.size):s.toList≠[]:=by
 intro e;have:=zdO s;rw[e]at this;simp at this;omega
theorem zkS (A:Option Addr) (c:Nat) (l:List ByteArray) (w:World) (h:Seg w A l.length (sts l)) (hm:May l) :
    Calls prog 35 #[.slice A l.length c] w fun e w'=>∃g,e=.returned (.tuple #[.pointer (some ⟨g,0,none⟩),.int .i64 0])/\w.heap.size<=g/\Dic w' g l/\Below w.heap.size w w':=by
 have hlen:=hm.1;have hcl:=Lib.hid (zh7 A l.length c (sts l) w h (zn9 l) hlen);have HS:=Lib.hid h;have HM:=Lib.hid hm;clear h hm;go_enter func35,ntmps35
 go_wp2;go_loop [11] (fun i=>∃k:Nat,k<=l.length/\i=.int .i64 k) (fun i=>l.length-(intOf i).toNat)
 case atStart=>exact ⟨0,Nat.zero_le _,rfl⟩
 case round=>
  obtain ⟨k,hk,rfl⟩:=hrel;by_cases hlt:k<l.length
  · obtain ⟨_,h1,h2,h3⟩:=HM.out.2 k hlt;obtain ⟨ad,rfl,hc⟩:=HS.out.str hlt;by_cases h0:0<k
    · obtain ⟨ad',e,hc'⟩:=HS.out.str (k:=k-1) (by omega);cases e
      have h3':=h3 h0;have hne:=zaY h1;clear h3;generalize l[k]=s at hc h1 h2 h3' hne;generalize l[k-1]=p at hc' h3';have hsb:s.toList.isEmpty=false:=(by simpa using hne);go_wp2;go_round
      case rel=>exact ⟨k+1,by omega,by go_num⟩
      case measure=>simp[intOf];omega
    · have hne:=zaY h1;clear h3;generalize l[k]=s at hc h1 h2 hne;have hsb:s.toList.isEmpty=false:=(by simpa using hne);go_wp2;go_round
      case rel=>exact ⟨k+1,by omega,by go_num⟩
      case measure=>simp[intOf];omega
  · go_wp2_with fail
    refine hcl.out.mono ?_;rintro e w1 ⟨lv,rfl,hrow,hb1⟩;obtain ⟨A1,c1,rfl⟩:=zac hrow;have hd:=zot w1 w A1 c1 l HM.out hrow;have HD:=Lib.hid hd;have hs1:=hb1.size;clear hd hrow;go_wp2;go_ret2;exact ⟨w1.heap.size,rfl,hs1,HD.out,hb1.alloc hs1 _⟩
theorem new_no (A:Option Addr) (c:Nat) (l:List ByteArray) (w:World) (h:Seg w A l.length (sts l)) (hm:¬May l) :
    Calls prog 35 #[.slice A l.length c] w fun e w'=>e=.returned (.tuple #[.pointer none,.int .i64 1])/\w=w':=by
 by_cases hlen:300<l.length
 · clear h hm;go_enter func35,ntmps35
   go_wp2;go_ret2;exact ⟨rfl,rfl⟩
 · have HS:=Lib.hid h;have HM:Hid (¬∀i,i<l.length->OkAt l i):=fun h=>hm ⟨by omega,h⟩;clear h hm;go_enter func35,ntmps35
   go_wp2;go_loop [11] (fun i=>∃k:Nat,k<=l.length/\i=.int .i64 k/\Hid (∀j,j<k->OkAt l j)) (fun i=>l.length-(intOf i).toNat)
   case atStart=>exact ⟨0,Nat.zero_le _,rfl,fun j hj=>by omega⟩
   case round=>
    obtain ⟨k,hk,rfl,HK⟩:=hrel;by_cases hlt:k<l.length
    · obtain ⟨ad,rfl,hc⟩:=HS.out.str hlt;by_cases h1:1<=l[k].size
      · by_cases h2:l[k].size<=250
        · by_cases h0:0<k
          · obtain ⟨ad',e,hc'⟩:=HS.out.str (k:=k-1) (by omega);cases e
            cases h3:Op.bytesLess l[k-1].toList l[k].toList
            · have hne:=zaY h1;generalize l[k]=s at hc h1 h2 h3 hne;generalize l[k-1]=p at hc' h3;have hsb:s.toList.isEmpty=false:=(by simpa using hne);go_wp2;go_ret2;exact ⟨rfl,rfl⟩
            · have HK2:Hid (∀j,j<k+1->OkAt l j):=fun j hj=>by
               rcases Nat.lt_or_ge j k with h4 | h4
               · exact HK.out j h4
               · obtain rfl:j=k:=(by omega);exact ⟨hlt,h1,h2,fun _=>h3⟩
              have hne:=zaY h1;generalize l[k]=s at hc h1 h2 h3 hne;generalize l[k-1]=p at hc' h3;have hsb:s.toList.isEmpty=false:=(by simpa using hne);go_wp2;go_round
              case rel=>exact ⟨k+1,by omega,by go_num,HK2⟩
              case measure=>simp[intOf];omega
          · have HK2:Hid (∀j,j<k+1->OkAt l j):=fun j hj=>by
             rcases Nat.lt_or_ge j k with h4 | h4
             · exact HK.out j h4
             · obtain rfl:j=k:=(by omega);exact ⟨hlt,h1,h2,fun h=>absurd h h0⟩
            have hne:=zaY h1;generalize l[k]=s at hc h1 h2 hne;have hsb:s.toList.isEmpty=false:=(by simpa using hne);go_wp2;go_round
            case rel=>exact ⟨k+1,by omega,by go_num,HK2⟩
            case measure=>simp[intOf];omega
        · have hne:=zaY h1;generalize l[k]=s at hc h1 h2 hne;have hsb:s.toList.isEmpty=false:=(by simpa using hne);go_wp2;go_ret2;exact ⟨rfl,rfl⟩
      · have he:=znm (s:=l[k]) (by omega);generalize l[k]=s at hc h1 he;go_wp2;go_ret2;exact ⟨rfl,rfl⟩
    · exact absurd (fun i hi=>HK.out i (by omega)) HM.out
def tx (l:List ByteArray):List (List UInt8):=l.map fun s=>s.data.toList
theorem zeM (l:List ByteArray):(tx l).length=l.length:=by simp[tx]
theorem tx_get (l:List ByteArray) (k:Nat) (h:k<l.length):(tx l)[k]'(by rw[zeM];exact h)=l[k].data.toList:=by simp[tx]
theorem zn1 (l:List ByteArray) (k:Nat) (h:k<l.length):(tx l).drop k=l[k].data.toList::(tx l).drop (k+1):=by
 rw[List.drop_eq_getElem_cons (by rw[zeM];exact h),tx_get l k h]
def prv (l:List ByteArray) (k:Nat):List UInt8:=(l.getD (k-1) ByteArray.empty).data.toList
theorem zkB (l:List ByteArray) (k:Nat) (h:k-1<l.length):prv l k=l[k-1].data.toList:=by
 unfold prv;rw[<-List.getElem_eq_getD]
theorem zne (k:Nat) (p q s:List UInt8) (h:k % 4=0):ent k p s=ent k q s:=by
 unfold ent com;rw[if_pos h,if_pos h]
theorem hd1 (n:Nat):IntKind.u8.wrap (IntKind.i64.wrap ((n:Int) / 256))=((UInt8.ofNat (n / 256)).toNat:Int):=by
 rw[IntKind.wrap_u8,IntKind.wrap_i64,UInt8.toNat_ofNat'];omega
theorem hd2 (n:Nat):IntKind.u8.wrap ((n:Int).tmod 256)=((UInt8.ofNat n).toNat:Int):=by
 rw[IntKind.wrap_u8,Int.tmod_eq_emod_of_nonneg (by omega),UInt8.toNat_ofNat'];omega
theorem zfU (k n:Nat) (p:List UInt8) (s:ByteArray) (hn:com k p s.data.toList=n) (hs:s.size<=250) :
    bys (ent k p s.data.toList)=[.int .u8 (n:Int),.int .u8 ((s.size:Int)-(n:Int))]++strCells (s.extract n s.size):=by
 have hle:=(zi2 k p s.data.toList).2;rw[hn,Array.length_toList]at hle;have hle':n<=s.size:=hle;have e3:(s.extract n s.size).data.toList=s.data.toList.drop n:=by
  rw[ByteArray.data_extract,Array.toList_extract];simp only[List.extract_eq_take_drop];rw[List.take_of_length_le];rw[List.length_drop,Array.length_toList];exact nL
 unfold ent strCells;rw[hn,e3];have e1:((UInt8.ofNat n).toNat:Int)=(n:Int):=(by rw[UInt8.toNat_ofNat'];omega);have e2:((UInt8.ofNat (s.data.toList.length-n)).toNat:Int)=(s.size:Int)-(n:Int):=by
  rw[Array.length_toList,UInt8.toNat_ofNat'];show (((s.size-n) % 2 ^ 8:Nat):Int)=_;omega
 show Value.int .u8 ((UInt8.ofNat n).toNat:Int)::Value.int .u8 ((UInt8.ofNat (s.data.toList.length-n)).toNat:Int)::bys (s.data.toList.drop n)=_;rw[e1,e2];rfl
theorem _root_.Go.World.ownsRow.drewFd {w:World} {base:Nat} {e:TypeId} {size:Nat} {v:Value} {n:Nat} {xs:List Value} (h:w.ownsRow base e size v n xs) (k:Nat):(w.drewN k).ownsRow base e size v n xs:=own_below h ⟨rfl,rfl,rfl,nL,fun _ _=>rfl⟩
theorem zbh (W:World) (cs:Array Value) (t:TypeId) (j:Nat) (u:Value) (h:cs.toList[j]?=some u):(W.alloc (.cells cs t)).cell? ⟨W.heap.size,j,none⟩=some u:=by
 rw[cell_of_row _ W.heap.size j cs t (0,0) (heap_alloc_new W _)];simpa using h
theorem zbG (s:ByteArray) (n:Nat):(s.extract n s.size).size=s.size-n:=by
 simp[ByteArray.size_extract]
structure BSt (w wr:World) (l:List ByteArray) (k:Nat) (v:Value) (acc:List UInt8):Prop where
 own:wr.ownsRow w.heap.size 5 1 v acc.length (bys acc)
 below:Below w.heap.size w wr
 eq:acc++encF k (prv l k) ((tx l).drop k)=enc (tx l)
 len:acc.length<=2+252*k
theorem BSt.start (w w2:World) (l:List ByteArray) (hb:Below w.heap.size w w2) (hs:w.heap.size<=w2.heap.size) :
    BSt w (w2.alloc (.cells #[.int .u8 ((UInt8.ofNat (l.length / 256)).toNat:Int),.int .u8 ((UInt8.ofNat l.length).toNat:Int)] 5)) l 0 (.slice (some ⟨w2.heap.size,0,none⟩) 2 2) [UInt8.ofNat (l.length / 256),UInt8.ofNat l.length]:=by
 refine ⟨⟨rfl,.inr ⟨w2.heap.size,2,_,rfl,hs,heap_alloc_new w2 _,nL,by decide,rfl,rfl⟩⟩,hb.alloc hs _,?_,by simp⟩;have:∀X:List (List UInt8),encF 0 (prv l 0) X=encF 0 [] X:=by
  intro X;cases X with
  | nil=>rfl
  | cons s r=>show ent 0 _ s++_=ent 0 _ s++_;rw[zne 0 (prv l 0) [] s rfl]
 rw[this];unfold enc;rw[zeM];rfl
theorem BSt.step {w wr w2:World} {l:List ByteArray} {k:Nat} {v v':Value} {acc:List UInt8} (h:BSt w wr l k v acc) (hk:k<l.length) (hs:l[k].size<=250)
    (hown:w2.ownsRow w.heap.size 5 1 v' (acc++ent k (prv l k) l[k].data.toList).length (bys (acc++ent k (prv l k) l[k].data.toList))) (hb:Below w.heap.size w w2) :
    BSt w w2 l (k+1) v' (acc++ent k (prv l k) l[k].data.toList):=by
 refine ⟨hown,hb,?_,?_⟩
 · rw[<-h.eq,zn1 l k hk,List.append_assoc];show acc++(ent k (prv l k) l[k].data.toList++_)=acc++(ent k (prv l k) l[k].data.toList++encF (k+1) l[k].data.toList _);rw[zkB l (k+1) (by omega)];rfl
 · have h1:=h.len;have h2:=znM k (prv l k) l[k].data.toList;have h3:l[k].data.toList.length=l[k].size:=Array.length_toList;rw[List.length_append];omega
theorem zei (g:Nat) (l:List ByteArray) (w:World) (h:Dic w g l) :
    Calls prog 38 #[.pointer (some ⟨g,0,none⟩)] w fun e w'=>∃v,e=.returned v/\w'.ownsRow w.heap.size 5 1 v (enc (tx l)).length (bys (enc (tx l)))/\Below w.heap.size w w':=by
 obtain ⟨A,c,hb,hs⟩:=h.ex;have k0:w.cell? ⟨g,0,none⟩=some (.slice A l.length c):=(by rw[cell_of_row w g 0 _ 148 (0,0) hb];rfl);have hlen:=h.may.1;have hlt:=h.lt;have HS:=Lib.hid hs;have HM:=Lib.hid h.may;clear hs h hb;go_enter func38,ntmps38
 go_wp2;go_still_tail 14,(by kernel_rfl)
 rw[hd1 l.length,hd2 l.length];have hst0:=fun w2 hb hs=>BSt.start w w2 l hb hs;generalize ((UInt8.ofNat (l.length / 256)).toNat:Int)=p at hst0 ⊢;generalize ((UInt8.ofNat l.length).toNat:Int)=q at hst0 ⊢
 change wpList _ _ _ _ _ w.drew
 have hbel:Below w.heap.size w w.drew:=br.drew;have hk2:w.drew.cell? ⟨g,0,none⟩=some (.slice A l.length c):=k0;generalize w.drew=w2 at hbel hk2 ⊢;have hs2:=hbel.size;have hst:=hst0 w2 hbel hs2;clear hst0;have hka:(w2.alloc (.cells #[.int .u8 p,.int .u8 q] 5)).cell? ⟨g,0,none⟩=some (.slice A l.length c):=by
  rw[World.cell?_alloc_past _ _ _ (by show g<w2.heap.size;omega)];exact hk2
 have HST:=Lib.hid hst;clear hst;go_wp2;generalize (w2.alloc (.cells #[.int .u8 p,.int .u8 q] 5))=W0 at HST hka ⊢;obtain ⟨i0,hi,hz0,hz1,hz2⟩:=info_parts info5;clear hka hk2 hbel hs2
 rename g<w.heap.size=>hgl
 go_loopw [3,29] (fun v i wr=>∃(k:Nat) (acc:List UInt8),k<=l.length/\i=.int .i64 k/\BSt w wr l k v acc) (fun _ i _=>l.length-(intOf i).toNat)
 case atStart=>exact ⟨0,_,Nat.zero_le _,rfl,HST.out⟩
 case round=>
  obtain ⟨k,acc,hk,rfl,hst⟩:=hrel;by_cases hlt:k<l.length
  · obtain ⟨ad,rfl,hc⟩:=(HS.out.below hst.below).str hlt;have k1:wr.cell? ⟨g,0,none⟩=some (.slice (some ad) l.length c):=(hst.below.cell (p:=⟨g,0,none⟩) hgl).trans k0;obtain ⟨_,hs1,hs2,_⟩:=HM.out.2 k hlt;have hal:=hst.len;have hrs:=hst.below.size;have HST1:=Lib.hid hst;by_cases hm:k % 4=0
    · have hmb:(((k:Int) % 4) != 0)=false:=bne_eq_false_iff_eq.2 (by omega);have HE:Hid (bys (ent k (prv l k) l[k].data.toList)=[.int .u8 0,.int .u8 (l[k].size:Int)]++strCells l[k]):=by
       have h:=zfU k 0 (prv l k) l[k] (by unfold com;rw[if_pos hm]) hs2;show bys (ent k (prv l k) l[k].data.toList)=[.int .u8 0,.int .u8 (l[k].size:Int)]++strCells l[k];simpa using h
      have HSTEP:Hid (∀w2 v',w2.ownsRow w.heap.size 5 1 v' (acc++ent k (prv l k) l[k].data.toList).length (bys (acc++ent k (prv l k) l[k].data.toList))->Below w.heap.size w w2->BSt w w2 l (k+1) v' (acc++ent k (prv l k) l[k].data.toList)):=fun w2 v' h1 h2=>hst.step hlt hs2 h1 h2;have HL:Hid ((ent k (prv l k) l[k].data.toList).length=2+l[k].size):=by
       show (ent k (prv l k) l[k].data.toList).length=2+l[k].size;rw[zd8];unfold com;rw[if_pos hm];rfl
      clear hst hm;generalize ent k (prv l k) l[k].data.toList=E at HE HSTEP HL;generalize l[k]=s at hc hs1 hs2 HE HL;go_wp2_with (at_builtin;refine wpList_append_own _ rfl (.tmp 47) (.tmp 55) 22 rfl w.heap.size 5 i0 (.int .u8 0) 1 1 underlying22 hi hz0 hz1 hz2 rfl (by decide) _ acc.length (bys acc) rfl (HST1.out.own.alloc _) ⟨wr.heap.size,0,none⟩ 2 2 [.int .u8 0,.int .u8 (s.size:Int)] rfl rfl ?c1 ?c2 ?c3 ?c4 ?c5 ?_)
      case c1=>intro j u hj;match j,hj with | 0,hj=>simp at hj;subst hj;simp[Addr.add] | 1,hj=>simp at hj;subst hj;simp[Addr.add]
      case c2=>intro u hu;simp at hu;rcases hu with rfl | rfl<;>rfl
      case c3=>unfold maxLen;omega
      case c4=>omega
      case c5=>simp;omega
      intro v1 w3 hown1 hg1 _;have hb3:Below w.heap.size w w3:=(HST1.out.below.alloc hrs _).grown hg1 (by simp;omega) (fun j hj=>(HST1.out.own.lt j hj).1);have hrs3:=hb3.size;go_wp2_with (at_builtin;refine wpList_append_own_string _ rfl (.tmp 57) (.tmp 60) 22 9 rfl w.heap.size 5 i0 underlying22 underlying9 hi hz0 hz1 hz2 v1 (acc.length+2) (bys acc++[.int .u8 0,.int .u8 (s.size:Int)]) rfl hown1 s rfl ?d1 ?d2 ?d3 ?_)
      case d1=>unfold maxLen;omega
      case d2=>omega
      case d3=>exact hrs3
      intro v2 w4 hown2 hg2 _;have hb4:Below w.heap.size w w4:=hb3.grown hg2 hrs3 (fun j hj=>(hown1.lt j hj).1)
      have hnext:=HSTEP.out w4 v2 (by
       rw[zej,HE.out,List.length_append,HL.out];rw[Nat.add_assoc]at hown2;exact hown2) hb4
      have HNEXT:=Lib.hid hnext;clear hnext hown1 hown2 hg1 hg2 hb3 hb4;go_wp2;go_roundw
      case rel=>exact ⟨k+1,_,by omega,by go_num,HNEXT.out⟩
      case measure=>simp[intOf];omega
    · have hmb:(((k:Int) % 4) != 0)=true:=(by rw[bne_iff_ne];omega);have hk0:0<k:=(by omega);obtain ⟨ad',e,hc'⟩:=(HS.out.below HST1.out.below).str (k:=k-1) (by omega);cases e
      have hcall:=fun W=>zgk l[k-1] l[k] W (by
       obtain ⟨_,_,h250,_⟩:=HM.out.2 (k-1) (by omega);omega)
      obtain ⟨n,hn⟩:∃n,com k (prv l k) l[k].data.toList=n:=⟨_,rfl⟩;have hnc:shr l[k-1].data.toList l[k].data.toList=n:=by
       rw[<-hn,zkB l k (by omega)];unfold com;rw[if_neg hm]
      rw[hnc]at hcall;have hnle:n<=l[k].size:=by
       have:=(zi2 k (prv l k) l[k].data.toList).2;rw[hn,Array.length_toList]at this;exact this
      have HE:Hid (bys (ent k (prv l k) l[k].data.toList)=[.int .u8 (n:Int),.int .u8 ((l[k].size:Int)-(n:Int))]++strCells (l[k].extract n l[k].size)):=zfU k n (prv l k) l[k] hn hs2;have HSTEP:Hid (∀w2 v',w2.ownsRow w.heap.size 5 1 v' (acc++ent k (prv l k) l[k].data.toList).length (bys (acc++ent k (prv l k) l[k].data.toList))->Below w.heap.size w w2->BSt w w2 l (k+1) v' (acc++ent k (prv l k) l[k].data.toList)):=fun w2 v' h1 h2=>hst.step hlt hs2 h1 h2;have HL:Hid ((ent k (prv l k) l[k].data.toList).length=2+(l[k].size-n)):=by
       show (ent k (prv l k) l[k].data.toList).length=2+(l[k].size-n);rw[zd8,hn];rfl
      have HCALL:=Lib.hid hcall;clear hst hm hn hnc hcall;generalize ent k (prv l k) l[k].data.toList=E at HE HSTEP HL;generalize l[k]=s at hc hs1 hs2 HE HL HCALL hnle;generalize l[k-1]=p0 at hc' HCALL;go_wp2_with fail
      refine (HCALL.out _).mono ?_;rintro e w' ⟨rfl,nq,rfl⟩;go_wp2_with (at_builtin;refine wpList_append_own _ rfl (.tmp 47) (.tmp 55) 22 rfl w.heap.size 5 i0 (.int .u8 0) 1 1 underlying22 hi hz0 hz1 hz2 rfl (by decide) _ acc.length (bys acc) rfl ((HST1.out.own.drewFd nq).alloc _) ⟨wr.heap.size,0,none⟩ 2 2 [.int .u8 (n:Int),.int .u8 ((s.size:Int)-(n:Int))] rfl rfl ?cc1 ?cc2 ?cc3 ?cc4 ?cc5 ?_)
      case cc1=>exact fun j u hj=>by rw[add_zero'];exact zbh (wr.drewN nq) _ 5 j u hj
      case cc2=>intro u hu;simp at hu;rcases hu with rfl | rfl<;>rfl
      case cc3=>unfold maxLen;omega
      case cc4=>omega
      case cc5=>simp;omega
      intro v1 w3 hown1 hg1 _;have hb3:Below w.heap.size w w3:=((below_drewN' HST1.out.below nq).alloc hrs _).grown hg1 (by simp;omega) (fun j hj=>(HST1.out.own.lt j hj).1);have hrs3:=hb3.size;go_wp2_with (at_builtin;refine wpList_append_own_string _ rfl (.tmp 57) (.tmp 60) 22 9 rfl w.heap.size 5 i0 underlying22 underlying9 hi hz0 hz1 hz2 v1 (acc.length+2) (bys acc++[.int .u8 (n:Int),.int .u8 ((s.size:Int)-(n:Int))]) rfl hown1 (s.extract n s.size) rfl ?dd1 ?dd2 ?dd3 ?_)
      case dd1=>rw[zbG];unfold maxLen;omega
      case dd2=>rw[zbG];omega
      case dd3=>exact hrs3
      intro v2 w4 hown2 hg2 _;have hb4:Below w.heap.size w w4:=hb3.grown hg2 hrs3 (fun j hj=>(hown1.lt j hj).1)
      have hnext:=HSTEP.out w4 v2 (by
       rw[zej,HE.out,List.length_append,HL.out];rw[Nat.add_assoc]at hown2;exact hown2) hb4
      have HNEXT:=Lib.hid hnext;clear hnext hown1 hown2 hg1 hg2 hb3 hb4;go_wp2;go_roundw
      case rel=>exact ⟨k+1,_,by omega,by go_num,HNEXT.out⟩
      case measure=>simp[intOf];omega
  · have hkl:k=l.length:=(by omega);have HE:Hid (acc=enc (tx l)):=by
     have:=hst.eq;rw[hkl,List.drop_of_length_le (by rw[zeM];exact nL)]at this;show acc=enc (tx l);rw[<-this];show acc=acc++[];simp
    have HST1:=Lib.hid hst;clear hst hkl;go_wp2;go_ret;exact ⟨_,rfl,by rw[<-HE.out];exact HST1.out.own,HST1.out.below⟩
theorem May.small {l:List ByteArray} (h:May l):∀s∈tx l,s.length<=250:=by
 intro s hs;obtain ⟨b,hb,rfl⟩:=List.mem_map.1 hs;obtain ⟨i,hi,rfl⟩:=List.getElem_of_mem hb;obtain ⟨_,_,h2,_⟩:=h.2 i hi;rw[Array.length_toList];exact h2
theorem ba_eq {a b:ByteArray}:a=b↔a.data.toList=b.data.toList:=⟨fun h=>by rw[h],fun h=>WideShapes.bytes_inj h⟩
theorem all_calls (g:Nat) (A:Option Addr) (n c:Nat) (w:World) (hb:w.heap[g]?=some (.cells #[.slice A n c] 148 (0,0))) :
    Calls prog 53 #[.pointer (some ⟨g,0,none⟩)] w fun e w'=>e=.returned (.slice A n c)/\w=w':=by
 have k0:w.cell? ⟨g,0,none⟩=some (.slice A n c):=(by rw[cell_of_row w g 0 _ 148 (0,0) hb];rfl);clear hb;go_enter func53,ntmps53
 go_wp2;go_ret;exact ⟨rfl,rfl⟩
theorem zgF (g:Nat) (l:List ByteArray) (w:World) (h:Dic w g l) :
    Calls prog 19 #[.pointer (some ⟨g,0,none⟩)] w fun e w'=>e=.returned (.int .i64 l.length)/\w=w':=by
 obtain ⟨A,c,hb,_⟩:=h.ex;have hal:=all_calls g A l.length c w hb;clear h hb;go_enter func19,ntmps19
 go_wp2_with (go_at_call 53;refine hal.mono ?_;rintro e w' ⟨rfl,rfl⟩)
 go_ret;exact ⟨rfl,rfl⟩
def extZ (l:List ByteArray) (id:Int):ByteArray:=if h:1<=id/\id<=l.length then l[(id-1).toNat]'(by omega) else ByteArray.empty
theorem zd5 (g:Nat) (l:List ByteArray) (id:Int) (w:World) (h:Dic w g l) :
    Calls prog 56 #[.pointer (some ⟨g,0,none⟩),.int .i64 id] w fun e w'=>e=.returned (.string (extZ l id))/\w=w':=by
 have hL:=zgF g l w h;obtain ⟨A,c,hb,hs⟩:=h.ex;have hlen:=h.may.1;have k0:w.cell? ⟨g,0,none⟩=some (.slice A l.length c):=(by rw[cell_of_row w g 0 _ 148 (0,0) hb];rfl);by_cases h0:1<=id
 · by_cases h1:id<=l.length
   · obtain ⟨m,rfl⟩:∃m:Nat,id=(m:Int):=⟨id.toNat,by omega⟩;obtain ⟨ad,rfl,hc⟩:=hs.str (k:=m-1) (by omega);have he:extZ l (m:Int)=l[m-1]'(by omega):=(by unfold extZ;rw[dif_pos ⟨h0,h1⟩];congr 1;omega);rw[<-he]at hc;generalize extZ l (m:Int)=s at hc ⊢;clear hs hb h he;go_enter func56,ntmps56
     go_wp2_with (go_at_call 19;refine hL.mono ?_;rintro e w' ⟨rfl,rfl⟩)
     go_ret;exact ⟨rfl,rfl⟩
   · have he:extZ l id=ByteArray.empty:=(by unfold extZ;rw[dif_neg (by omega)]);rw[he];clear hs hb h he;go_enter func56,ntmps56
     go_wp2_with (go_at_call 19;refine hL.mono ?_;rintro e w' ⟨rfl,rfl⟩)
     go_ret;exact ⟨rfl,rfl⟩
 · have he:extZ l id=ByteArray.empty:=(by unfold extZ;rw[dif_neg (by omega)]);rw[he];clear hs hb h he;go_enter func56,ntmps56
   go_wp2_with (go_at_call 19;refine hL.mono ?_;rintro e w' ⟨rfl,rfl⟩)
   go_ret;exact ⟨rfl,rfl⟩
theorem ziJ (l:List UInt8):strOfNums (l.map fun b=>(b.toNat:Int))=str l:=by
 unfold strOfNums str
 congr 1
 rw[List.map_map]
 congr 1
 conv=>rhs;rw[<-List.map_id l]
 apply List.map_congr_left;intro b _;simp
theorem zaG (w:World) (A:Option Addr) (n c:Nat) (l:List UInt8) (h:Seg w A n (bys l)):(convert 22 9 (.slice A n c)).run prog w=.ok (.string (str l)) w:=by
 rcases Nat.eq_zero_or_pos n with h0 | h0
 · subst h0;obtain rfl:l=[]:=by
    have:=h.len;rw[zbo]at this;exact List.eq_nil_of_length_eq_zero this
   cases A with
   | none=>exact run_convert_bytes_nil (P:=prog) w 22 5 underlying22 underlying5 0 c 9 underlying9
   | some ad=>
    rw[run_convert_bytes_string w 22 9 5 _ 0 c underlying22 underlying5 underlying9];simp[Conv.bytesToString,loadCells];rfl
 · obtain ⟨⟨b,off,sp⟩,e,hc⟩:=h.cell h0;have hlen:l.length=n:=(by rw[<-zbo];exact h.len);obtain rfl:sp=none:=by
    have:=hc 0 _ (List.getElem?_eq_getElem (by rw[zbo];omega));simpa [Addr.add] using World.cell?_spot this
   subst e;rw[<-ziJ];refine run_convert_bytes_arg (P:=prog) w 22 5 underlying22 underlying5 b off n c (l.map fun b=>(b.toNat:Int)) (by simpa using hlen) ?_ 9 underlying9;intro j hj;have:=hc j (.int .u8 ((l[j]'(by omega)).toNat:Int)) (by simp[bys,hlen,hj]);rw[WideShapes.add_plain]at this;rw[this];simp[List.getD,hlen,hj]
end Go.Proofs.YtjcpjopbgngihaaGreatDoor.Fd
end
section
namespace Go.Proofs.YtjcpjopbgngihaaGreatDoor
open Tryz
open Go.RowKit Go.Lib Go.Proofs.YtjcpjopbgngihaaGreatDoorW.PrintWords
theorem C_int {k:IntKind} {w:World} {A:Option Addr} {n:Nat} {xs:List Int} (hn:n<=9223372036854775807) (h:Fd.Seg w A n (nums k xs)):(Kd.int k).C w A n xs:=by
 have hl:xs.length=n:=(by rw[<-h.len,nums_length]);refine ⟨hl,hn,fun h0=>?_⟩;obtain ⟨ad,e,hc⟩:=h.cell h0;refine ⟨ad,e,fun j p hj=>⟨[.int k p],rfl,rfl,fun i u hi=>?_⟩⟩
 match i,hi with
 | 0,hi=>
  simp only[List.getElem?_cons_zero,Option.some.injEq]at hi;subst hi;have:=hc j (.int k p) (by unfold nums;rw[List.getElem?_map,hj];rfl);rw[show j*(Kd.int k).sz+0=j from Nat.mul_one j];exact this
theorem R_int {k:IntKind} {e:Nat} {w:World} {base:Nat} {ok:Nat->Prop} {v:Value} {xs:List Int} (h:(Kd.int k).R e w base ok v xs):w.ownsRow base e 1 v xs.length (nums k xs):=by
 obtain ⟨_,inner,ho,hr⟩:=h;have e1:inner=nums k xs:=by
  apply List.ext_getElem?;intro j;by_cases hj:j<xs.length
  · have h1:=hr.2 j xs[j] (List.getElem?_eq_getElem hj);have h2:(inner.drop (j*1)).take 1=[.int k xs[j]]:=h1;rw[Nat.mul_one]at h2;have h3:inner[j]?=some (.int k xs[j]):=by
     have:=congrArg (fun l=>l[0]?) h2;simp only[List.getElem?_take,List.getElem?_drop,Nat.add_zero,List.getElem?_cons_zero]at this;simpa using this
    rw[h3];unfold nums;rw[List.getElem?_map,List.getElem?_eq_getElem hj];rfl
  · have hi:inner.length=xs.length:=(by have:=ho.1;rw[this];exact Nat.mul_one _);rw[List.getElem?_eq_none (by omega),List.getElem?_eq_none (by rw[nums_length];omega)]
 rw[<-e1];exact ho
theorem zmI (l:List UInt8):nums .u8 (l.map fun b=>(b.toNat:Int))=Fd.bys l:=by
 unfold nums Fd.bys;rw[List.map_map];rfl
theorem zaj {w:World} {b b':Nat} {e:TypeId} {s n:Nat} {v:Value} {xs:List Value} (h:w.ownsRow b e s v n xs) (hb:b'<=b):w.ownsRow b' e s v n xs:=by
 obtain ⟨h1,h⟩:=h;rcases h with h | ⟨g,cap,cur,hv,hg,r⟩
 · exact ⟨h1,.inl h⟩
 · exact ⟨h1,.inr ⟨g,cap,cur,hv,Nat.le_trans hb hg,r⟩⟩
theorem zhI {w:World} {b:Nat} {e t:TypeId} {s n S:Nat} {v:Value} {xs:List Value} {cells:Array Value} (h:w.ownsRow b e s v n xs) (hS:w.heap[S]?=some (.cells cells t (0,0))) (hne:e≠t):∀k,v.ownBlock=some k->¬k=S:=by
 rintro k hk rfl;rcases h.2 with ⟨rfl,_⟩ | ⟨g,cap,cur,rfl,_,hh,_⟩
 · simp[Value.ownBlock]at hk
 · simp only[Value.ownBlock,Option.some.injEq]at hk;subst hk;rw[hh]at hS;injection hS with hS;injection hS with _ ht;exact hne ht
theorem _root_.Go.Proofs.YtjcpjopbgngihaaGreatDoor.Fd.own_le' {w:World} {b:Nat} {e:TypeId} {s n:Nat} {A:Option Addr} {c:Nat} {xs:List Value} (h:w.ownsRow b e s (.slice A n c) n xs):n<=c:=by
 rcases h.2 with ⟨hv,h0⟩ | ⟨g,cap,cur,hv,_,_,hn,_⟩
 · omega
 · cases hv;exact hn
end Go.Proofs.YtjcpjopbgngihaaGreatDoor
end
section
namespace Go.Proofs.YtjcpjopbgngihaaGreatDoor
open Tryz
open Go.RowKit Go.Lib Go.Proofs.YtjcpjopbgngihaaGreatDoorW.PrintWords Pk
open Go.Proofs.YtjcpjopbgngihaaGreatDoor.PTopFile (pack_Pack.calls)
theorem zcQ (A:Option Addr) (c:Nat) (l:List Nat) (d:Nat) (w:World) (h:Fd.Seg w A l.length (nums .i64 (ints l))) (hc:l.length<=c) (hl:∀x∈l,x<2 ^ d) (hd:d<=20) (hn:l.length<=1000) :
    Calls prog 36 #[.slice A l.length c,.int .i64 d] w fun e w'=>∃v,e=.returned (.tuple #[v,.int .i64 0])/\w'.ownsRow w.heap.size 5 1 v (packB l d).length (nums .u8 (ints (packB l d)))/\Below w.heap.size w w':=by
 have:=PTopFile.pack_Pack.calls (l.length*(d+3)+1) A c (ints l) (d:Int) (ints (packB l d)) 0 w (by rw[zaE];exact C_int (by omega) h) (by rw[zaE];exact hc) (pack_f l d hl hd hn);rw[zaE]at this;refine Calls.mono this ?_;rintro e w' ⟨v,rfl,hR,hb⟩;have h1:=R_int hR;rw[zaE]at h1;exact ⟨v,rfl,h1,hb⟩
theorem zg5 (A:Option Addr) (n c:Nat) (news:List Value) (w:World) (h:Fd.Seg w A n news) (h1:∀u∈news,u.oneCell'=true) (hn:n<=100000) :
    Calls prog 167 #[.slice A n c] w fun e w'=>∃v',e=.returned v'/\w'.ownsRow w.heap.size 3 1 v' n news/\Below w.heap.size w w':=by
 have q22:∀(w:World) (a:Option Addr) (n c n' c':Nat),(binOp .eql 57 (.slice a n c) (.slice none n' c')).run prog w=.ok (.bool a.isNone) w:=fun w a n c n' c'=>Lib.run_eql_slice_nil w _ _ a n c n' c' underlying57;obtain ⟨i0,hi,hz0,hz1,hz2⟩:=info_parts Fd.info3;cases A with
 | none=>
  have hn0:n=0:=by
   rcases Nat.eq_zero_or_pos n with h0 | h0
   · exact h0
   · obtain ⟨ad,e,_⟩:=h.cell h0;cases e
  subst hn0;obtain rfl:news=[]:=List.eq_nil_of_length_eq_zero h.len;clear h1 h;go_enter func167,ntmps167
  go_wp2;go_ret;exact ⟨_,rfl,World.ownsRow_nil _ _ _ _,br⟩
 | some ad=>
  have HS:=Lib.hid h;have H1:=Lib.hid h1;clear h h1;go_enter func167,ntmps167
  go_wp2_with (at_builtin;refine Fd.zah _ rfl _ _ 57 rfl w.heap.size 3 i0 (.int .i64 0) 8 underlying57 hi hz0 hz1 hz2 rfl _ _ _ rfl (World.ownsRow_made w #[] 0 nL (Nat.zero_le _) (by simp)) (some ad) n c news rfl ?qc1 ?qc2 ?qc3 ?qc4 ?qc5 ?_)
  case qc1=>exact HS.out.below (br.alloc nL _)
  case qc2=>exact H1.out
  case qc3=>unfold maxLen;omega
  case qc4=>omega
  case qc5=>simp
  intro v' w1 hown hgrow;go_wp2;go_ret;refine ⟨v',rfl,by simpa using hown,?_⟩;exact ((Below.refl _ w).alloc nL _).grown hgrow (by simp) (by intro k hk;simp[Value.ownBlock]at hk;omega)
theorem zmH (k:IntKind) (xs:List Int):∀u∈nums k xs,u.oneCell'=true:=by
 intro u hu;unfold nums at hu;obtain ⟨q,_,rfl⟩:=List.mem_map.1 hu;rfl
theorem zfd (A:Option Addr) (c:Nat) (l:List Nat) (w:World) (h:Fd.Seg w A l.length (nums .i64 (ints l))) (hc:l.length<=c) (hl:∀x∈l,x<2 ^ 10) (hn:l.length<=100) :
    Calls prog 115 #[.slice A l.length c,.int .i64 10] w fun e w'=>∃W,e=.returned (.tuple #[.pointer (some ⟨W,0,none⟩),.int .i64 0])/\Below w.heap.size w w':=by
 have HP:=hid (zcQ A c l 10 w h hc hl (by omega) (by omega))
 have HC:Hid (∀w1,Below w.heap.size w w1->Calls prog 167 #[.slice A l.length c] w1 fun e w'=>∃v',e=.returned v'/\w'.ownsRow w1.heap.size 3 1 v' l.length (nums .i64 (ints l))/\Below w1.heap.size w1 w'):=
  fun w1 hb=>zg5 A l.length c _ w1 (h.below hb) (zmH _ _) (by omega)
 clear h hl hc;go_enter func115,ntmps115
 go_wp2_with fail
 refine HP.out.mono ?_;rintro e w1 ⟨v,rfl,_,hb1⟩;have HB1:=hid hb1;clear hb1;go_wp2_with fail
 refine (HC.out _ HB1.out).mono ?_;rintro e w2 ⟨v2,rfl,hown2,hb2⟩;obtain ⟨A2,c2,rfl⟩:=Fd.zac hown2;clear hown2;have HB2:=hid (HB1.out.trans (hb2.mono HB1.out.size));clear hb2;go_wp2;go_ret2;exact ⟨_,rfl,HB2.out.alloc HB2.out.size _⟩
end Go.Proofs.YtjcpjopbgngihaaGreatDoor
end
section
namespace Go.Proofs.YtjcpjopbgngihaaGreatDoor.Fd
open Tryz
open Go.RowKit Go.Lib Fp
theorem bytesWorld_below (w:World) (s:ByteArray):RowKit.Below w.heap.size w (Lib.bytesWorld w 5 s):=
 ⟨rfl,rfl,rfl,by rw[Lib.bytesWorld_size];omega,fun i hi=>Lib.bytesWorld_at_old w 5 s i hi⟩
theorem zbZ (w:World) (s:ByteArray):Seg (Lib.bytesWorld w 5 s) (some ⟨w.heap.size,0,none⟩) s.size (bys s.data.toList):=by
 refine ⟨zbo _,fun _=>⟨_,rfl,fun j u hu=>?_⟩⟩;have hj:j<s.size:=(by have:=(List.getElem?_eq_some_iff.1 hu).1;rw[zbo,Array.length_toList]at this;exact this);rw[add_zero',Lib.bytesWorld_cell w 5 s j hj,<-hu];unfold bys;rw[List.getElem?_map,List.getElem?_eq_getElem (by rw[Array.length_toList];exact hj),List.getD_eq_getElem?_getD,List.getElem?_eq_getElem (by rw[Array.length_toList];exact hj)];rfl
theorem run_conv (w:World) (s:ByteArray):(convert 9 22 (.string s)).run prog w=.ok (.slice (some ⟨w.heap.size,0,none⟩) s.size (grownCap w s.size 0 5)) (Lib.bytesWorld w 5 s):=
 Lib.run_convert_string_bytes w 9 22 5 s underlying9 underlying22 underlying5
theorem hd3 {n:Nat} (h:n<=300):((UInt8.ofNat (n / 256)).toNat:Int)=(n:Int) / 256:=by
 rw[UInt8.toNat_ofNat'];omega
theorem hd4 (n:Nat):((UInt8.ofNat n).toNat:Int)=(n:Int) % 256:=by
 rw[UInt8.toNat_ofNat'];omega
theorem zoI (s:ByteArray):s.extract 0 s.size=s:=by
 rw[ba_eq,ByteArray.data_extract,Array.toList_extract];simp only[List.extract_eq_take_drop,List.drop_zero,Nat.sub_zero];rw[List.take_of_length_le];rw[Array.length_toList];exact nL
theorem zbX (A:Option Addr) (c:Nat) (l:List ByteArray) (w:World) (h:Seg w A l.length (sts l)) (hm:May l) :
    Calls prog 75 #[.slice A l.length c] w fun e w'=>∃v,e=.returned v/\w'.ownsRow w.heap.size 5 1 v (enc (tx l)).length (bys (enc (tx l)))/\Below w.heap.size w w':=by
 have hlen:=hm.1;have HS:=Lib.hid h;have HM:=Lib.hid hm;have hst:=BSt.start w w l br nL;rw[hd3 hlen,hd4]at hst;have HST:=Lib.hid hst;clear h hm hst;obtain ⟨i0,hi,hz0,hz1,hz2⟩:=info_parts info5;have hcv:∀(w:World) (s:ByteArray),(convert 9 22 (.string s)).run prog w=.ok (.slice (some ⟨w.heap.size,0,none⟩) s.size (grownCap w s.size 0 5)) (Lib.bytesWorld w 5 s):=run_conv;go_enter func75,ntmps75
 go_wp2;generalize w.alloc (.cells #[.int .u8 ((l.length:Int) / 256),.int .u8 ((l.length:Int) % 256)] 5)=W0 at HST ⊢;go_loopw [3,4] (fun v i wr=>∃(k:Nat) (acc:List UInt8),k<=l.length/\i=.int .i64 k/\BSt w wr l k v acc) (fun _ i _=>l.length-(intOf i).toNat)
 case atStart=>exact ⟨0,_,Nat.zero_le _,rfl,HST.out⟩
 case round=>
  obtain ⟨k,acc,hk,rfl,hst⟩:=hrel;by_cases hlt:k<l.length
  · obtain ⟨ad,rfl,hc⟩:=(HS.out.below hst.below).str hlt;obtain ⟨_,hs1,hs2,_⟩:=HM.out.2 k hlt;have hal:=hst.len;have hrs:=hst.below.size;have HST1:=Lib.hid hst;by_cases hm:k % 4=0
    · have hmb:(((k:Int) % 4) != 0)=false:=bne_eq_false_iff_eq.2 (by omega);have HE:Hid (bys (ent k (prv l k) l[k].data.toList)=[.int .u8 0,.int .u8 (l[k].size:Int)]++bys l[k].data.toList):=by
       have h:=zfU k 0 (prv l k) l[k] (by unfold com;rw[if_pos hm]) hs2;show bys (ent k (prv l k) l[k].data.toList)=[.int .u8 0,.int .u8 (l[k].size:Int)]++bys l[k].data.toList;simpa [strCells,bys] using h
      have HSTEP:Hid (∀w2 v',w2.ownsRow w.heap.size 5 1 v' (acc++ent k (prv l k) l[k].data.toList).length (bys (acc++ent k (prv l k) l[k].data.toList))->Below w.heap.size w w2->BSt w w2 l (k+1) v' (acc++ent k (prv l k) l[k].data.toList)):=fun w2 v' h1 h2=>hst.step hlt hs2 h1 h2;have HL:Hid ((ent k (prv l k) l[k].data.toList).length=2+l[k].size):=by
       show (ent k (prv l k) l[k].data.toList).length=2+l[k].size;rw[zd8];unfold com;rw[if_pos hm];rfl
      have HCC:Hid (∀W,Below w.heap.size w W->W.cell? (ad.add k)=some (.string l[k])):=fun W hW=>by
       obtain ⟨ad',e,h⟩:=(HS.out.below hW).str hlt;cases e;exact h
      clear hst hm;generalize ent k (prv l k) l[k].data.toList=E at HE HSTEP HL;generalize l[k]=s at hc hs1 hs2 HE HL HCC;have hr0:=zoI s;go_wp2_with (at_builtin;refine wpList_append_own _ rfl (.tmp 33) (.tmp 44) 22 rfl w.heap.size 5 i0 (.int .u8 0) 1 1 underlying22 hi hz0 hz1 hz2 rfl (by decide) _ acc.length (bys acc) rfl (HST1.out.own.alloc _) ⟨wr.heap.size,0,none⟩ 2 2 [.int .u8 0,.int .u8 (s.size:Int)] rfl rfl ?c1 ?c2 ?c3 ?c4 ?c5 ?_)
      case c1=>exact fun j u hj=>by rw[add_zero'];exact zbh wr _ 5 j u hj
      case c2=>intro u hu;simp at hu;rcases hu with rfl | rfl<;>rfl
      case c3=>unfold maxLen;omega
      case c4=>omega
      case c5=>simp;omega
      intro v1 w3 hown1 hg1 _;have hb3:Below w.heap.size w w3:=(HST1.out.below.alloc hrs _).grown hg1 (by simp;omega) (fun j hj=>(HST1.out.own.lt j hj).1);have hrs3:=hb3.size;have hc3:=HCC.out w3 hb3;go_wp2_with (at_builtin;refine zah _ rfl (.tmp 46) (.tmp 53) 22 rfl w.heap.size 5 i0 (.int .u8 0) 1 underlying22 hi hz0 hz1 hz2 rfl v1 (acc.length+2) (bys acc++[.int .u8 0,.int .u8 (s.size:Int)]) rfl (own_below hown1 (bytesWorld_below w3 s)) (some ⟨w3.heap.size,0,none⟩) s.size _ (bys s.data.toList) rfl (zbZ w3 s) (zaV _) ?d1 ?d2 ?d3 ?_)
      case d1=>unfold maxLen;omega
      case d2=>omega
      case d3=>rw[Lib.bytesWorld_size];omega
      intro v2 w4 hown2 hg2;have hb4:Below w.heap.size w w4:=(thn' hb3 hrs3 (bytesWorld_below w3 s)).grown hg2 (by rw[Lib.bytesWorld_size];omega) (fun j hj=>(hown1.lt j hj).1)
      have hnext:=HSTEP.out w4 v2 (by
       rw[zej,HE.out,List.length_append,HL.out];rw[Nat.add_assoc]at hown2;exact hown2) hb4
      have HNEXT:=Lib.hid hnext;clear hnext hown1 hown2 hg1 hg2 hb3 hb4;go_wp2;go_roundw
      case rel=>exact ⟨k+1,_,by omega,by go_num,HNEXT.out⟩
      case measure=>simp[intOf];omega
    · have hmb:(((k:Int) % 4) != 0)=true:=(by rw[bne_iff_ne];omega);have hk0:0<k:=(by omega);obtain ⟨ad',e,hc'⟩:=(HS.out.below HST1.out.below).str (k:=k-1) (by omega);cases e
      have hcall:=fun W=>zdR l[k-1] l[k] W (by
       obtain ⟨_,_,h250,_⟩:=HM.out.2 (k-1) (by omega);omega)
      obtain ⟨n,hn⟩:∃n,com k (prv l k) l[k].data.toList=n:=⟨_,rfl⟩;have hnc:shr l[k-1].data.toList l[k].data.toList=n:=by
       rw[<-hn,zkB l k (by omega)];unfold com;rw[if_neg hm]
      rw[hnc]at hcall;have hnle:n<=l[k].size:=by
       have:=(zi2 k (prv l k) l[k].data.toList).2;rw[hn,Array.length_toList]at this;exact this
      have HE:Hid (bys (ent k (prv l k) l[k].data.toList)=[.int .u8 (n:Int),.int .u8 ((l[k].size:Int)-(n:Int))]++bys (l[k].extract n l[k].size).data.toList):=by
       have h:=zfU k n (prv l k) l[k] hn hs2;show bys (ent k (prv l k) l[k].data.toList)=[.int .u8 (n:Int),.int .u8 ((l[k].size:Int)-(n:Int))]++bys (l[k].extract n l[k].size).data.toList;rw[h];rfl
      have HSTEP:Hid (∀w2 v',w2.ownsRow w.heap.size 5 1 v' (acc++ent k (prv l k) l[k].data.toList).length (bys (acc++ent k (prv l k) l[k].data.toList))->Below w.heap.size w w2->BSt w w2 l (k+1) v' (acc++ent k (prv l k) l[k].data.toList)):=fun w2 v' h1 h2=>hst.step hlt hs2 h1 h2;have HL:Hid ((ent k (prv l k) l[k].data.toList).length=2+(l[k].size-n)):=by
       show (ent k (prv l k) l[k].data.toList).length=2+(l[k].size-n);rw[zd8,hn];rfl
      have HCALL:=Lib.hid hcall;have HCC:Hid (∀W,Below w.heap.size w W->W.cell? (ad.add k)=some (.string l[k])):=fun W hW=>by
       obtain ⟨ad',e,h⟩:=(HS.out.below hW).str hlt;cases e;exact h
      have hi1:(0:Int)<=(k:Int)-1:=(by omega);have hi2:(k:Int)-1<(l.length:Int):=(by omega);clear hst hm hn hnc hcall;generalize ent k (prv l k) l[k].data.toList=E at HE HSTEP HL;generalize l[k]=s at hc hs1 hs2 HE HL HCALL hnle HCC;generalize l[k-1]=p0 at hc' HCALL;obtain ⟨r,hr⟩:∃r,s.extract n s.size=r:=⟨_,rfl⟩;have hrz:r.size=s.size-n:=(by rw[<-hr];exact zbG s n);rw[hr]at HE;have hr250:r.size<=250:=(by rw[hrz];omega);have HRZ:=Lib.hid hrz;clear hrz;go_wp2;go_quiet ((go_at_call 121;exact Calls.quiet_of (HCALL.out _)))
      rename_i nq;go_wp2_with (at_builtin;refine wpList_append_own _ rfl (.tmp 33) (.tmp 44) 22 rfl w.heap.size 5 i0 (.int .u8 0) 1 1 underlying22 hi hz0 hz1 hz2 rfl (by decide) _ acc.length (bys acc) rfl ((HST1.out.own.drewFd nq).alloc _) ⟨wr.heap.size,0,none⟩ 2 2 [.int .u8 (n:Int),.int .u8 ((s.size:Int)-(n:Int))] rfl rfl ?cc1 ?cc2 ?cc3 ?cc4 ?cc5 ?_)
      case cc1=>exact fun j u hj=>by rw[add_zero'];exact zbh (wr.drewN nq) _ 5 j u hj
      case cc2=>intro u hu;simp at hu;rcases hu with rfl | rfl<;>rfl
      case cc3=>unfold maxLen;omega
      case cc4=>omega
      case cc5=>simp;omega
      intro v1 w3 hown1 hg1 _;have hb3:Below w.heap.size w w3:=((below_drewN' HST1.out.below nq).alloc hrs _).grown hg1 (by simp;omega) (fun j hj=>(HST1.out.own.lt j hj).1);have hrs3:=hb3.size;have hc3:=HCC.out w3 hb3;go_wp2_with (at_builtin;refine zah _ rfl (.tmp 46) (.tmp 53) 22 rfl w.heap.size 5 i0 (.int .u8 0) 1 underlying22 hi hz0 hz1 hz2 rfl v1 (acc.length+2) (bys acc++[.int .u8 (n:Int),.int .u8 ((s.size:Int)-(n:Int))]) rfl (own_below hown1 (bytesWorld_below w3 r)) (some ⟨w3.heap.size,0,none⟩) r.size _ (bys r.data.toList) rfl (zbZ w3 r) (zaV _) ?dd1 ?dd2 ?dd3 ?_)
      case dd1=>unfold maxLen;omega
      case dd2=>omega
      case dd3=>rw[Lib.bytesWorld_size];omega
      intro v2 w4 hown2 hg2;have hb4:Below w.heap.size w w4:=(thn' hb3 hrs3 (bytesWorld_below w3 r)).grown hg2 (by rw[Lib.bytesWorld_size];omega) (fun j hj=>(hown1.lt j hj).1)
      have hnext:=HSTEP.out w4 v2 (by
       rw[zej,HE.out,List.length_append,HL.out,<-HRZ.out];rw[Nat.add_assoc]at hown2;exact hown2) hb4
      have HNEXT:=Lib.hid hnext;clear hnext hown1 hown2 hg1 hg2 hb3 hb4;go_wp2;go_roundw
      case rel=>exact ⟨k+1,_,by omega,by go_num,HNEXT.out⟩
      case measure=>simp[intOf];omega
  · have hkl:k=l.length:=(by omega);have HE:Hid (acc=enc (tx l)):=by
     have:=hst.eq;rw[hkl,List.drop_of_length_le (by rw[zeM];exact nL)]at this;show acc=enc (tx l);rw[<-this];show acc=acc++[];simp
    have HST1:=Lib.hid hst;clear hst hkl;go_wp2;go_ret;exact ⟨_,rfl,by rw[<-HE.out];exact HST1.out.own,HST1.out.below⟩
def Rd (b:List UInt8) (l:List ByteArray):Prop:=May l/\enc (tx l)=b
theorem zj5:∀{l l':List ByteArray},tx l=tx l'->l=l'
 | [],[],_=>rfl
 | [],_::_,h=>by simp[tx]at h
 | _::_,[],h=>by simp[tx]at h
 | a::l,b::l',h=>by
  unfold tx at h;rw[List.map_cons,List.map_cons]at h;injection h with h1 h2;rw[ba_eq.2 h1,zj5 (l:=l) (l':=l') h2]
theorem Rd.dec {b:List UInt8} {l:List ByteArray} (h:Rd b l):decB b=some (tx l):=by
 have:=(znq (tx l) h.1.small (by rw[zeM];exact h.1.1) []).1;rwa[List.append_nil,h.2]at this
theorem Rd.uniq {b:List UInt8} {l l':List ByteArray} (h:Rd b l) (h':Rd b l'):l=l':=by
 have:=h.dec;rw[h'.dec]at this;exact (zj5 (Option.some.inj this)).symm
theorem zb7 {b:List UInt8} (h:decB b=none):¬∃l,Rd b l:=fun ⟨l,hl⟩=>by
 rw[hl.dec]at h;cases h
theorem rd_some {b:List UInt8} {L:List ByteArray} (h:decB b=some (tx L)) (hn:¬Rd b L):¬∃l,Rd b l:=fun ⟨l,hl⟩=>by
 have:=hl.dec;rw[h]at this;rw[zj5 (Option.some.inj this)]at hn;exact hn hl
theorem ziA {b:List UInt8} (h:b.length<2):¬∃l,Rd b l:=by
 refine zb7 ?_
 match b,h with
 | [],_=>rfl
 | [_],_=>rfl
theorem zlI {b:List UInt8} (h:2<=b.length):decB b=(decN (b[0].toNat*256+b[1].toNat) [] (b.drop 2)).map (·.1):=by
 match b,h with
 | p::q::r,_=>rfl
theorem zeP {last rest:List UInt8} (h:rest.length<2):Fp.step last rest=none:=by
 match rest,h with
 | [],_=>rfl
 | [_],_=>rfl
theorem zkj {last b:List UInt8} {off:Nat} (h:off+2<=b.length):Fp.step last (b.drop off) =
    if b[off].toNat<=last.length/\b[off+1].toNat<=b.length-off-2 then some (last.take b[off].toNat++(b.drop (off+2)).take b[off+1].toNat,b.drop (off+2+b[off+1].toNat)) else none:=by
 have e:b.drop off=b[off]::b[off+1]::b.drop (off+2):=by
  rw[List.drop_eq_getElem_cons (by omega),List.drop_eq_getElem_cons (by omega)]
 rw[e];show (if b[off].toNat<=last.length/\b[off+1].toNat<=(b.drop (off+2)).length then _ else _)=_;rw[List.length_drop,List.drop_drop,Nat.sub_sub]
theorem znt (g:Nat) (l:List ByteArray) (w:World) (h:Dic w g l) :
    Calls prog 38 #[.pointer (some ⟨g,0,none⟩)] w fun e w'=>∃A n c,e=.returned (.slice A n c)/\Seg w' A n (bys (enc (tx l)))/\Below w.heap.size w w'/\(convert 22 9 (.slice A n c)).run prog w'=.ok (.string (str (enc (tx l)))) w':=
 (zei g l w h).mono fun e w' ⟨v,he,hown,hb⟩=>by
  obtain ⟨A,c,rfl⟩:=zac hown;exact ⟨A,_,c,he,Seg.of_own hown,hb,zaG _ _ _ _ _ (Seg.of_own hown)⟩
theorem zhC (A:Option Addr) (c:Nat) (l:List ByteArray) (w:World) (h:Seg w A l.length (sts l)) (hm:May l) :
    Calls prog 75 #[.slice A l.length c] w fun e w'=>∃A n c,e=.returned (.slice A n c)/\Seg w' A n (bys (enc (tx l)))/\Below w.heap.size w w'/\(convert 22 9 (.slice A n c)).run prog w'=.ok (.string (str (enc (tx l)))) w':=
 (zbX A c l w h hm).mono fun e w' ⟨v,he,hown,hb⟩=>by
  obtain ⟨A,c,rfl⟩:=zac hown;exact ⟨A,_,c,he,Seg.of_own hown,hb,zaG _ _ _ _ _ (Seg.of_own hown)⟩
structure RSt (b:List UInt8) (n k off:Nat) (L:List ByteArray) (last:ByteArray):Prop where
 len:L.length=k
 eq:decN n [] (b.drop 2)=(decN (n-k) last.data.toList (b.drop off)).map fun q=>(tx L++q.1,q.2)
theorem RSt.start (b:List UInt8) (n:Nat):RSt b n 0 2 [] ByteArray.empty:=by
 refine ⟨rfl,?_⟩;show decN n [] (b.drop 2)=(decN n [] (b.drop 2)).map fun q=>(q.1,q.2);cases decN n [] (b.drop 2)<;>rfl
theorem RSt.fail {b:List UInt8} {n k off:Nat} {L:List ByteArray} {last:ByteArray} (h:RSt b n k off L last) (hk:k<n) (hs:Fp.step last.data.toList (b.drop off)=none):decN n [] (b.drop 2)=none:=by
 rw[h.eq,show n-k=(n-k-1)+1 by omega];show ((Fp.step last.data.toList (b.drop off)).bind _).map _=none;rw[hs];rfl
theorem RSt.next {b:List UInt8} {n k off off':Nat} {L:List ByteArray} {last s:ByteArray} (h:RSt b n k off L last) (hk:k<n) (hs:Fp.step last.data.toList (b.drop off)=some (s.data.toList,b.drop off')):RSt b n (k+1) off' (L++[s]) s:=by
 refine ⟨by rw[List.length_append,h.len];rfl,?_⟩;rw[h.eq,show n-k=(n-(k+1))+1 by omega];show ((Fp.step last.data.toList (b.drop off)).bind _).map _=_;rw[hs];show ((decN (n-(k+1)) s.data.toList (b.drop off')).map _).map _=_;cases decN (n-(k+1)) s.data.toList (b.drop off') with
 | none=>rfl
 | some q=>simp[tx]
theorem RSt.done {b:List UInt8} {n off:Nat} {L:List ByteArray} {last:ByteArray} (h:RSt b n n off L last):decN n [] (b.drop 2)=some (tx L,b.drop off):=by
 rw[h.eq,Nat.sub_self];show some (tx L++[],b.drop off)=_;rw[List.append_nil]
theorem zc4 (s:ByteArray) (k:Nat):(s.extract 0 k).data.toList=s.data.toList.take k:=by
 rw[ByteArray.data_extract,Array.toList_extract];simp[List.extract_eq_take_drop]
theorem zkg (s p:ByteArray):(s.toList == p.toList)=true↔s.data.toList=p.data.toList:=by
 rw[Lib.toList_data,Lib.toList_data];simp
end Go.Proofs.YtjcpjopbgngihaaGreatDoor.Fd
end
