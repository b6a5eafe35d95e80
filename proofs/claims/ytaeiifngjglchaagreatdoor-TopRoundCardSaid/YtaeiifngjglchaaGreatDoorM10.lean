/- Proved on the way: Words for memory, and what the small fun; front.New makes a Dict of texts that may; What Bytes of a Dict writes; append of any slice's elements behind a ; The print tool's kinds of data, and my w. Each theorem states its own conditions. -/
import Derived.Test.YtaeiifngjglchaaGreatDoorM9
set_option maxHeartbeats 16000000
set_option maxRecDepth 1000000
section
namespace Go.Proofs.YtaeiifngjglchaaGreatDoor.Fd
open Go.Proofs.Tryz
open Go.RowKit Go.Lib Fp
structure Seg (w:World) (A:Option Addr) (n:Nat) (xs:List Value):Prop where
 len:xs.length=n
 cell:0<n->∃ad,A=some ad/\∀j u,xs[j]?=some u->w.cell? (ad.add j)=some u
theorem Seg.below {w w':World} {A:Option Addr} {n:Nat} {xs:List Value} (h:Seg w A n xs) (hb:Below w.heap.size w w'):Seg w' A n xs:=
 ⟨h.len,fun hn=>by
  obtain ⟨ad,e,hc⟩:=h.cell hn;exact ⟨ad,e,fun j u hu=>(hb.cell (World.block_lt_of_cell? w _ (hc j u hu))).trans (hc j u hu)⟩⟩
theorem Seg.at_ {w:World} {A:Option Addr} {n:Nat} {xs:List Value} (h:Seg w A n xs) {k:Nat} (hk:k<n):∃ad,A=some ad/\w.cell? (ad.add k)=some (xs[k]'(by rw[h.len];exact hk)):=by
 obtain ⟨ad,e,hc⟩:=h.cell (by omega);exact ⟨ad,e,hc k _ (List.getElem?_eq_getElem _)⟩
theorem Seg.of_own {w:World} {base:Nat} {e:TypeId} {A:Option Addr} {n c:Nat} {xs:List Value} (h:w.ownsRow base e 1 (.slice A n c) n xs):Seg w A n xs:=by
 refine ⟨by rw[h.1,Nat.mul_one],fun hn=>?_⟩;rcases h.2 with ⟨hv,h0⟩ | ⟨g,cap,cur,hv,_⟩
 · omega
 · injection hv with hA _ _;subst hA;exact ⟨_,rfl,h.cells (g:=g) rfl⟩
def sts (l:List ByteArray):List Value:=l.map .string
theorem znx (l:List ByteArray):∀u∈sts l,u.oneCell'=true:=by
 intro u hu;obtain ⟨b,_,rfl⟩:=List.mem_map.1 hu;rfl
theorem Seg.str {w:World} {A:Option Addr} {l:List ByteArray} (h:Seg w A l.length (sts l)) {k:Nat} (hk:k<l.length):∃ad,A=some ad/\w.cell? (ad.add k)=some (.string (l[k]'hk)):=by
 obtain ⟨ad,e,hc⟩:=h.at_ hk;refine ⟨ad,e,hc.trans ?_⟩;simp[sts]
def bys (l:List UInt8):List Value:=l.map fun b=>.int .u8 (b.toNat:Int)
theorem zbA (l:List UInt8):(bys l).length=l.length:=by simp[bys]
theorem zcG (l:List UInt8):∀u∈bys l,u.oneCell'=true:=by
 intro u hu;obtain ⟨b,_,rfl⟩:=List.mem_map.1 hu;rfl
theorem zhQ (l r:List UInt8):bys (l++r)=bys l++bys r:=by simp[bys]
theorem Seg.byte {w:World} {A:Option Addr} {l:List UInt8} (h:Seg w A l.length (bys l)) {k:Nat} (hk:k<l.length):∃ad,A=some ad/\w.cell? (ad.add k)=some (.int .u8 ((l[k]'hk).toNat:Int)):=by
 obtain ⟨ad,e,hc⟩:=h.at_ hk;refine ⟨ad,e,hc.trans ?_⟩;simp[bys]
theorem info3:(prog.info? 3).map (fun i=>(i.zero,i.size,i.bytes))=some (some (.int .i64 0),1,8):=by kernel_rfl
theorem info5:(prog.info? 5).map (fun i=>(i.zero,i.size,i.bytes))=some (some (.int .u8 0),1,1):=by kernel_rfl
theorem info9:(prog.info? 9).map (fun i=>(i.zero,i.size,i.bytes))=some (some (.string ByteArray.empty),1,16):=by kernel_rfl
theorem add_zero' (r m:Nat):(⟨r,0,none⟩:Addr).add m=⟨r,m,none⟩:=by unfold Addr.add;split<;>simp_all
theorem below_drewN' {B:Nat} {a w:World} (h:Below B a w) (n:Nat):Below B a (w.drewN n):=⟨h.os,h.tape,h.output,h.size,h.block⟩
theorem thn {a b c:World} (h:Below a.heap.size a b) (k:Below b.heap.size b c):Below a.heap.size a c:=h.trans (k.mono h.size)
theorem zac {w:World} {b:Nat} {e:TypeId} {s n:Nat} {v:Value} {xs:List Value} (h:w.ownsRow b e s v n xs):∃A c,v=.slice A n c:=by
 rcases h.2 with ⟨rfl,rfl⟩ | ⟨g,cap,cur,rfl,_⟩
 · exact ⟨_,_,rfl⟩
 · exact ⟨_,_,rfl⟩
theorem own_ne {w:World} {b b':Nat} {e e':TypeId} {s s' n n':Nat} {v v':Value} {xs xs':List Value} (h:w.ownsRow b e s v n xs) (h':w.ownsRow b' e' s' v' n' xs') (hne:e≠e'):v.ownBlock=none\/v.ownBlock≠v'.ownBlock:=by
 rcases h.2 with ⟨rfl,_⟩ | ⟨g,cap,cur,rfl,_,hh,_⟩
 · exact .inl rfl
 · rcases h'.2 with ⟨rfl,_⟩ | ⟨g',cap',cur',rfl,_,hh',_⟩
   · exact .inr (by simp[Value.ownBlock])
   · refine .inr fun hk=>?_;have hgg:g=g':=(by simpa [Value.ownBlock] using hk);subst hgg;rw[hh]at hh';injection hh' with hh';injection hh' with _ ht;exact hne ht
theorem own_below {w w1:World} {base:Nat} {e:TypeId} {size n:Nat} {v:Value} {xs:List Value} (h:w.ownsRow base e size v n xs) (hb:Below w.heap.size w w1):w1.ownsRow base e size v n xs:=
 h.kept (row:=none) ⟨hb.os,hb.tape,hb.output,hb.size,fun i hi _=>hb.block i hi⟩ (by cases v.ownBlock<;>simp)
theorem za1 {P:Program} (w:World) (base:Nat) (t ty e:TypeId) (i:TypeInfo) (size:Nat) (ht:P.underlying t=some (.slice e)) (hi:P.info? e=some i)
    (v:Value) (n:Nat) (xs:List Value) (hown:w.ownsRow base e size v n xs) (c:Nat):(Builtin.append_ #[t,t] ty #[v,.slice none 0 c]).run P w=.ok v w:=by
 rcases hown.2 with ⟨rfl,rfl⟩ | ⟨g,cap,cur,rfl,_,_,hnc,_⟩
 · simp[Builtin.append_,run_underlying ht,sizeOf,typeInfo,hi,Builtin.lenOf,Builtin.firstCells]
 · simp[Builtin.append_,run_underlying ht,sizeOf,typeInfo,hi,Builtin.lenOf,Builtin.firstCells,hnc,storeCells]
theorem zaq {P:Program} (w:World) {ops:Array Oper} {rest:List Oper} {o:Oper} {a:Act} {Q:Exit->Act->World->Prop} (hgd:o.guard=none) (s x:Operand) (t:TypeId)
    (ho:o.op=.call { callee:=.builtin .append,args:=#[s,x],argTypes:=#[t,t] })
    (base:Nat) (e:TypeId) (i:TypeInfo) (z:Value) (bytes:Nat) (ht:P.underlying t=some (.slice e)) (hi:P.info? e=some i) (hz:i.zero=some z)
    (hsize:i.size=1) (hby:i.bytes=bytes) (hzs:z.cells.size=1)
    (v:Value) (n:Nat) (xs:List Value) (hs:a.eval s=v) (hown:w.ownsRow base e 1 v n xs)
    (A:Option Addr) (m c:Nat) (news:List Value) (hx:a.eval x=.slice A m c) (hseg:Seg w A m news) (h1:∀u∈news,u.oneCell'=true)
    (h63:n+m<=maxLen) (hbytes:(n+m)*bytes<=140737488355328) (hbase:base<=w.heap.size)
    (h:∀v' w',w'.ownsRow base e 1 v' (n+m) (xs++news)->w.grownBy w' v.ownBlock->wpList P ops Q rest (a.put o.dst v') w'):wpList P ops Q (o::rest) a w:=by
 cases A with
 | none=>
  have hm:m=0:=by
   rcases Nat.eq_zero_or_pos m with h0 | h0
   · exact h0
   · obtain ⟨ad,e,_⟩:=hseg.cell h0;cases e
  subst hm;obtain rfl:news=[]:=List.eq_nil_of_length_eq_zero hseg.len;refine wpList_plain hgd fun K hK=>?_;have hrun:=za1 (P:=P) w base t o.type e i 1 ht hi v n xs hown c;unfold Oper.wp;simp[execOp,ho,resolve,invoke,builtin,hs,hx,hrun,Result.andThen];exact hK _ _ (h v w (by simpa using hown) (World.grownBy.refl w _))
 | some ad=>
  refine wpList_append_own w hgd s x t ho base e i z 1 bytes ht hi hz hsize hby hzs (by decide) v n xs hs hown ad m c news hx (by rw[hseg.len,Nat.mul_one]) ?_ h1 h63 hbytes hbase (fun v' w' h2 h3 _=>h v' w' h2 h3);intro j u hu;have hn0:0<m:=by
   have:=(List.getElem?_eq_some_iff.1 hu).1;rw[hseg.len]at this;omega
  obtain ⟨ad',e,hc⟩:=hseg.cell hn0;cases e
  exact hc j u hu
theorem zfV (a b:ByteArray) (w:World) (ha:a.size<=140737488351232) :
    Calls prog 103 #[.string a,.string b] w fun e w'=>e=.returned (.int .i64 (shr a.data.toList b.data.toList:Nat))/\∃n,w'=w.drewN n:=by
 go_enter func103,ntmps103
 go_wp2;go_loopw [5] (fun i wr=>∃k n:Nat,k<=a.size/\k<=b.size/\i=.int .i64 k/\Hid (a.data.toList.take k=b.data.toList.take k)/\wr=w.drewN n) (fun i _=>a.size-(intOf i).toNat)
 case atStart=>exact ⟨0,0,Nat.zero_le _,Nat.zero_le _,rfl,by show a.data.toList.take 0=b.data.toList.take 0;simp,rfl⟩
 case round=>
  obtain ⟨k,n,hka,hkb,rfl,HT,rfl⟩:=hrel;by_cases h1:k<a.size
  · by_cases h2:k<b.size
    · by_cases h3:a[k]=b[k]
      · have he:(((a[k].toNat:Nat):Int) == ((b[k].toNat:Nat):Int))=true:=(by rw[h3];simp);have HT2:Hid (a.data.toList.take (k+1)=b.data.toList.take (k+1)):=by
         show a.data.toList.take (k+1)=b.data.toList.take (k+1);rw[List.take_succ_eq_append_getElem (by simpa using h1),List.take_succ_eq_append_getElem (by simpa using h2),HT.out]
         congr 2
        clear h3 HT;go_wp2;repeat (go_quiet (fail);try go_wp2)
        go_roundw
        case rel=>exact ⟨k+1,_,by omega,by omega,by go_num,HT2,rfl⟩
        case measure=>simp[intOf];omega
      · have he:(((a[k].toNat:Nat):Int) == ((b[k].toNat:Nat):Int))=false:=by
         rw[beq_eq_false_iff_ne];intro e;exact h3 (UInt8.toNat_inj.1 (by omega))
        have HR:Hid (shr a.data.toList b.data.toList=k):=ze7 _ _ k (by simpa using hka) (by simpa using hkb) HT.out (.inr (.inr ⟨by simpa using h1,by simpa using h2,h3⟩));clear h3 HT;go_wp2;repeat (go_quiet (fail);try go_wp2)
        go_ret;exact ⟨by rw[HR.out];rfl,_,World.drewN_drewN ..⟩
    · have HR:Hid (shr a.data.toList b.data.toList=k):=ze7 _ _ k (by simpa using hka) (by simpa using hkb) HT.out (.inr (.inl (by simp;omega)));go_wp2;repeat (go_quiet (fail);try go_wp2)
      go_ret;exact ⟨by rw[HR.out];rfl,_,World.drewN_drewN ..⟩
  · have HR:Hid (shr a.data.toList b.data.toList=k):=ze7 _ _ k (by simpa using hka) (by simpa using hkb) HT.out (.inl (by simp;omega));go_wp2;repeat (go_quiet (fail);try go_wp2)
    go_ret;exact ⟨by rw[HR.out];rfl,_,World.drewN_drewN ..⟩
def OkAt (l:List ByteArray) (i:Nat):Prop:=∃h:i<l.length,1<=l[i].size/\l[i].size<=250/\(0<i->Op.bytesLess (l[i-1]'(by omega)).toList l[i].toList=true)
def May (l:List ByteArray):Prop:=l.length<=300/\∀i,i<l.length->OkAt l i
theorem zhM (A:Option Addr) (n c:Nat) (news:List Value) (w:World) (h:Seg w A n news) (h1:∀u∈news,u.oneCell'=true) (hn:n<=300) :
    Calls prog 100 #[.slice A n c] w fun e w'=>∃v',e=.returned v'/\w'.ownsRow w.heap.size 9 1 v' n news/\Below w.heap.size w w':=by
 have q22:∀(w:World) (a:Option Addr) (n c n' c':Nat),(binOp .eql 38 (.slice a n c) (.slice none n' c')).run prog w=.ok (.bool a.isNone) w:=fun w a n c n' c'=>Lib.run_eql_slice_nil w _ _ a n c n' c' underlying38;obtain ⟨i0,hi,hz0,hz1,hz2⟩:=info_parts info9;cases A with
 | none=>
  have hn0:n=0:=by
   rcases Nat.eq_zero_or_pos n with h0 | h0
   · exact h0
   · obtain ⟨ad,e,_⟩:=h.cell h0;cases e
  subst hn0;obtain rfl:news=[]:=List.eq_nil_of_length_eq_zero h.len;clear h1 h;go_enter func100,ntmps100
  go_wp2;go_ret;exact ⟨_,rfl,World.ownsRow_nil _ _ _ _,br⟩
 | some ad=>
  have HS:=Lib.hid h;have H1:=Lib.hid h1;clear h h1;go_enter func100,ntmps100
  go_wp2_with (at_builtin;refine zaq _ rfl _ _ 38 rfl w.heap.size 9 i0 (.string ByteArray.empty) 16 underlying38 hi hz0 hz1 hz2 rfl _ _ _ rfl (World.ownsRow_made w #[] 0 nL (Nat.zero_le _) (by simp)) (some ad) n c news rfl ?qc1 ?qc2 ?qc3 ?qc4 ?qc5 ?_)
  case qc1=>exact HS.out.below (br.alloc nL _)
  case qc2=>exact H1.out
  case qc3=>unfold maxLen;omega
  case qc4=>omega
  case qc5=>simp
  intro v' w1 hown hgrow;go_wp2;go_ret;refine ⟨v',rfl,by simpa using hown,?_⟩;exact ((Below.refl _ w).alloc nL _).grown hgrow (by simp) (by intro k hk;simp[Value.ownBlock]at hk;omega)
structure Dic (w:World) (g:Nat) (l:List ByteArray):Prop where
 ex:∃A c,w.heap[g]?=some (.cells #[.slice A l.length c] 173 (0,0))/\Seg w A l.length (sts l)
 may:May l
theorem Dic.lt {w:World} {g:Nat} {l:List ByteArray} (h:Dic w g l):g<w.heap.size:=by
 obtain ⟨A,c,hb,_⟩:=h.ex;exact (Array.getElem?_eq_some_iff.1 hb).1
theorem Dic.below {w w':World} {g:Nat} {l:List ByteArray} (h:Dic w g l) (hb:Below w.heap.size w w'):Dic w' g l:=by
 have hlt:=h.lt;refine ⟨?_,h.may⟩;obtain ⟨A,c,hg,h1⟩:=h.ex;exact ⟨A,c,(hb.block g hlt).trans hg,h1.below hb⟩
theorem znZ (w1 w:World) (A1:Option Addr) (c1:Nat) (l:List ByteArray) (hm:May l) (hrow:w1.ownsRow w.heap.size 9 1 (.slice A1 l.length c1) l.length (sts l)) :
    Dic (w1.alloc (.cells #[.slice A1 l.length c1] 173)) w1.heap.size l:=by
 refine ⟨⟨A1,c1,heap_alloc_new w1 _,?_⟩,hm⟩;exact (Seg.of_own hrow).below (br.alloc nL _)
theorem zdA (s:ByteArray):s.toList.length=s.size:=by rw[Lib.toList_data,Array.length_toList];rfl
theorem zmP {s:ByteArray} (h:s.size=0):s.toList=[]:=List.eq_nil_of_length_eq_zero (by rw[zdA,h])
theorem zaV {s:ByteArray} (h:1<=s.size):s.toList≠[]:=by
 intro e;have:=zdA s;rw[e]at this;simp at this;omega
theorem zkg (A:Option Addr) (c:Nat) (l:List ByteArray) (w:World) (h:Seg w A l.length (sts l)) (hm:May l) :
    Calls prog 39 #[.slice A l.length c] w fun e w'=>∃g,e=.returned (.tuple #[.pointer (some ⟨g,0,none⟩),.int .i64 0])/\w.heap.size<=g/\Dic w' g l/\Below w.heap.size w w':=by
 have hlen:=hm.1;have hcl:=Lib.hid (zhM A l.length c (sts l) w h (znx l) hlen);have HS:=Lib.hid h;have HM:=Lib.hid hm;clear h hm;go_enter func39,ntmps39
 go_wp2;go_loop [11] (fun i=>∃k:Nat,k<=l.length/\i=.int .i64 k) (fun i=>l.length-(intOf i).toNat)
 case atStart=>exact ⟨0,Nat.zero_le _,rfl⟩
 case round=>
  obtain ⟨k,hk,rfl⟩:=hrel;by_cases hlt:k<l.length
  · obtain ⟨_,h1,h2,h3⟩:=HM.out.2 k hlt;obtain ⟨ad,rfl,hc⟩:=HS.out.str hlt;by_cases h0:0<k
    · obtain ⟨ad',e,hc'⟩:=HS.out.str (k:=k-1) (by omega);cases e
      have h3':=h3 h0;have hne:=zaV h1;clear h3;generalize l[k]=s at hc h1 h2 h3' hne;generalize l[k-1]=p at hc' h3';have hsb:s.toList.isEmpty=false:=(by simpa using hne);go_wp2;go_round
      case rel=>exact ⟨k+1,by omega,by go_num⟩
      case measure=>simp[intOf];omega
    · have hne:=zaV h1;clear h3;generalize l[k]=s at hc h1 h2 hne;have hsb:s.toList.isEmpty=false:=(by simpa using hne);go_wp2;go_round
      case rel=>exact ⟨k+1,by omega,by go_num⟩
      case measure=>simp[intOf];omega
  · go_wp2_with fail
    refine hcl.out.mono ?_;rintro e w1 ⟨lv,rfl,hrow,hb1⟩;obtain ⟨A1,c1,rfl⟩:=zac hrow;have hd:=znZ w1 w A1 c1 l HM.out hrow;have HD:=Lib.hid hd;have hs1:=hb1.size;clear hd hrow;go_wp2;go_ret2;exact ⟨w1.heap.size,rfl,hs1,HD.out,hb1.alloc hs1 _⟩
theorem new_no (A:Option Addr) (c:Nat) (l:List ByteArray) (w:World) (h:Seg w A l.length (sts l)) (hm:¬May l) :
    Calls prog 39 #[.slice A l.length c] w fun e w'=>e=.returned (.tuple #[.pointer none,.int .i64 1])/\w=w':=by
 by_cases hlen:300<l.length
 · clear h hm;go_enter func39,ntmps39
   go_wp2;go_ret2;exact ⟨rfl,rfl⟩
 · have HS:=Lib.hid h;have HM:Hid (¬∀i,i<l.length->OkAt l i):=fun h=>hm ⟨by omega,h⟩;clear h hm;go_enter func39,ntmps39
   go_wp2;go_loop [11] (fun i=>∃k:Nat,k<=l.length/\i=.int .i64 k/\Hid (∀j,j<k->OkAt l j)) (fun i=>l.length-(intOf i).toNat)
   case atStart=>exact ⟨0,Nat.zero_le _,rfl,fun j hj=>by omega⟩
   case round=>
    obtain ⟨k,hk,rfl,HK⟩:=hrel;by_cases hlt:k<l.length
    · obtain ⟨ad,rfl,hc⟩:=HS.out.str hlt;by_cases h1:1<=l[k].size
      · by_cases h2:l[k].size<=250
        · by_cases h0:0<k
          · obtain ⟨ad',e,hc'⟩:=HS.out.str (k:=k-1) (by omega);cases e
            cases h3:Op.bytesLess l[k-1].toList l[k].toList
            · have hne:=zaV h1;generalize l[k]=s at hc h1 h2 h3 hne;generalize l[k-1]=p at hc' h3;have hsb:s.toList.isEmpty=false:=(by simpa using hne);go_wp2;go_ret2;exact ⟨rfl,rfl⟩
            · have HK2:Hid (∀j,j<k+1->OkAt l j):=fun j hj=>by
               rcases Nat.lt_or_ge j k with h4 | h4
               · exact HK.out j h4
               · obtain rfl:j=k:=(by omega);exact ⟨hlt,h1,h2,fun _=>h3⟩
              have hne:=zaV h1;generalize l[k]=s at hc h1 h2 h3 hne;generalize l[k-1]=p at hc' h3;have hsb:s.toList.isEmpty=false:=(by simpa using hne);go_wp2;go_round
              case rel=>exact ⟨k+1,by omega,by go_num,HK2⟩
              case measure=>simp[intOf];omega
          · have HK2:Hid (∀j,j<k+1->OkAt l j):=fun j hj=>by
             rcases Nat.lt_or_ge j k with h4 | h4
             · exact HK.out j h4
             · obtain rfl:j=k:=(by omega);exact ⟨hlt,h1,h2,fun h=>absurd h h0⟩
            have hne:=zaV h1;generalize l[k]=s at hc h1 h2 hne;have hsb:s.toList.isEmpty=false:=(by simpa using hne);go_wp2;go_round
            case rel=>exact ⟨k+1,by omega,by go_num,HK2⟩
            case measure=>simp[intOf];omega
        · have hne:=zaV h1;generalize l[k]=s at hc h1 h2 hne;have hsb:s.toList.isEmpty=false:=(by simpa using hne);go_wp2;go_ret2;exact ⟨rfl,rfl⟩
      · have he:=zmP (s:=l[k]) (by omega);generalize l[k]=s at hc h1 he;go_wp2;go_ret2;exact ⟨rfl,rfl⟩
    · exact absurd (fun i hi=>HK.out i (by omega)) HM.out
def tx (l:List ByteArray):List (List UInt8):=l.map fun s=>s.data.toList
theorem zfL (l:List ByteArray):(tx l).length=l.length:=by simp[tx]
theorem tx_get (l:List ByteArray) (k:Nat) (h:k<l.length):(tx l)[k]'(by rw[zfL];exact h)=l[k].data.toList:=by simp[tx]
theorem zno (l:List ByteArray) (k:Nat) (h:k<l.length):(tx l).drop k=l[k].data.toList::(tx l).drop (k+1):=by
 rw[List.drop_eq_getElem_cons (by rw[zfL];exact h),tx_get l k h]
def prv (l:List ByteArray) (k:Nat):List UInt8:=(l.getD (k-1) ByteArray.empty).data.toList
theorem znb (l:List ByteArray) (k:Nat) (h:k-1<l.length):prv l k=l[k-1].data.toList:=by
 unfold prv;rw[<-List.getElem_eq_getD]
theorem zmI (k:Nat) (p q s:List UInt8) (h:k % 4=0):ent k p s=ent k q s:=by
 unfold ent com;rw[if_pos h,if_pos h]
theorem hd1 (n:Nat):IntKind.u8.wrap (IntKind.i64.wrap ((n:Int) / 256))=((UInt8.ofNat (n / 256)).toNat:Int):=by
 rw[IntKind.wrap_u8,IntKind.wrap_i64,UInt8.toNat_ofNat'];omega
theorem hd2 (n:Nat):IntKind.u8.wrap ((n:Int).tmod 256)=((UInt8.ofNat n).toNat:Int):=by
 rw[IntKind.wrap_u8,Int.tmod_eq_emod_of_nonneg (by omega),UInt8.toNat_ofNat'];omega
theorem zle (k n:Nat) (p:List UInt8) (s:ByteArray) (hn:com k p s.data.toList=n) (hs:s.size<=250) :
    bys (ent k p s.data.toList)=[.int .u8 (n:Int),.int .u8 ((s.size:Int)-(n:Int))]++strCells (s.extract n s.size):=by
 have hle:=(zla k p s.data.toList).2;rw[hn,Array.length_toList]at hle;have hle':n<=s.size:=hle;have e3:(s.extract n s.size).data.toList=s.data.toList.drop n:=by
  rw[ByteArray.data_extract,Array.toList_extract];simp only[List.extract_eq_take_drop];rw[List.take_of_length_le];rw[List.length_drop,Array.length_toList];exact nL
 unfold ent strCells;rw[hn,e3];have e1:((UInt8.ofNat n).toNat:Int)=(n:Int):=(by rw[UInt8.toNat_ofNat'];omega);have e2:((UInt8.ofNat (s.data.toList.length-n)).toNat:Int)=(s.size:Int)-(n:Int):=by
  rw[Array.length_toList,UInt8.toNat_ofNat'];show (((s.size-n) % 2 ^ 8:Nat):Int)=_;omega
 show Value.int .u8 ((UInt8.ofNat n).toNat:Int)::Value.int .u8 ((UInt8.ofNat (s.data.toList.length-n)).toNat:Int)::bys (s.data.toList.drop n)=_;rw[e1,e2];rfl
theorem _root_.Go.World.ownsRow.drewFd {w:World} {base:Nat} {e:TypeId} {size:Nat} {v:Value} {n:Nat} {xs:List Value} (h:w.ownsRow base e size v n xs) (k:Nat):(w.drewN k).ownsRow base e size v n xs:=own_below h ⟨rfl,rfl,rfl,nL,fun _ _=>rfl⟩
theorem zgK (W:World) (cs:Array Value) (t:TypeId) (j:Nat) (u:Value) (h:cs.toList[j]?=some u):(W.alloc (.cells cs t)).cell? ⟨W.heap.size,j,none⟩=some u:=by
 rw[cell_of_row _ W.heap.size j cs t (0,0) (heap_alloc_new W _)];simpa using h
theorem zcI (s:ByteArray) (n:Nat):(s.extract n s.size).size=s.size-n:=by
 simp[ByteArray.size_extract]
structure BSt (w wr:World) (l:List ByteArray) (k:Nat) (v:Value) (acc:List UInt8):Prop where
 own:wr.ownsRow w.heap.size 5 1 v acc.length (bys acc)
 below:Below w.heap.size w wr
 eq:acc++encF k (prv l k) ((tx l).drop k)=enc (tx l)
 len:acc.length<=2+252*k
theorem BSt.start (w w2:World) (l:List ByteArray) (hb:Below w.heap.size w w2) (hs:w.heap.size<=w2.heap.size) :
    BSt w (w2.alloc (.cells #[.int .u8 ((UInt8.ofNat (l.length / 256)).toNat:Int),.int .u8 ((UInt8.ofNat l.length).toNat:Int)] 5)) l 0 (.slice (some ⟨w2.heap.size,0,none⟩) 2 2) [UInt8.ofNat (l.length / 256),UInt8.ofNat l.length]:=by
 refine ⟨⟨rfl,.inr ⟨w2.heap.size,2,_,rfl,hs,heap_alloc_new w2 _,nL,by decide,rfl,rfl⟩⟩,hb.alloc hs _,?_,by simp⟩;have:∀X:List (List UInt8),encF 0 (prv l 0) X=encF 0 [] X:=by
  intro X;cases X with
  | nil=>rfl
  | cons s r=>show ent 0 _ s++_=ent 0 _ s++_;rw[zmI 0 (prv l 0) [] s rfl]
 rw[this];unfold enc;rw[zfL];rfl
theorem BSt.step {w wr w2:World} {l:List ByteArray} {k:Nat} {v v':Value} {acc:List UInt8} (h:BSt w wr l k v acc) (hk:k<l.length) (hs:l[k].size<=250)
    (hown:w2.ownsRow w.heap.size 5 1 v' (acc++ent k (prv l k) l[k].data.toList).length (bys (acc++ent k (prv l k) l[k].data.toList))) (hb:Below w.heap.size w w2) :
    BSt w w2 l (k+1) v' (acc++ent k (prv l k) l[k].data.toList):=by
 refine ⟨hown,hb,?_,?_⟩
 · rw[<-h.eq,zno l k hk,List.append_assoc];show acc++(ent k (prv l k) l[k].data.toList++_)=acc++(ent k (prv l k) l[k].data.toList++encF (k+1) l[k].data.toList _);rw[znb l (k+1) (by omega)];rfl
 · have h1:=h.len;have h2:=zng k (prv l k) l[k].data.toList;have h3:l[k].data.toList.length=l[k].size:=Array.length_toList;rw[List.length_append];omega
theorem zd6 (g:Nat) (l:List ByteArray) (w:World) (h:Dic w g l) :
    Calls prog 42 #[.pointer (some ⟨g,0,none⟩)] w fun e w'=>∃v,e=.returned v/\w'.ownsRow w.heap.size 5 1 v (enc (tx l)).length (bys (enc (tx l)))/\Below w.heap.size w w':=by
 obtain ⟨A,c,hb,hs⟩:=h.ex;have k0:w.cell? ⟨g,0,none⟩=some (.slice A l.length c):=(by rw[cell_of_row w g 0 _ 173 (0,0) hb];rfl);have hlen:=h.may.1;have hlt:=h.lt;have HS:=Lib.hid hs;have HM:=Lib.hid h.may;clear hs h hb;go_enter func42,ntmps42
 go_wp2;go_still_tail 14,(by kernel_rfl)
 rw[hd1 l.length,hd2 l.length];have hst0:=fun w2 hb hs=>BSt.start w w2 l hb hs;generalize ((UInt8.ofNat (l.length / 256)).toNat:Int)=p at hst0 ⊢;generalize ((UInt8.ofNat l.length).toNat:Int)=q at hst0 ⊢
 change wpList _ _ _ _ _ w.drew
 have hbel:Below w.heap.size w w.drew:=br.drew;have hk2:w.drew.cell? ⟨g,0,none⟩=some (.slice A l.length c):=k0;generalize w.drew=w2 at hbel hk2 ⊢;have hs2:=hbel.size;have hst:=hst0 w2 hbel hs2;clear hst0;have hka:(w2.alloc (.cells #[.int .u8 p,.int .u8 q] 5)).cell? ⟨g,0,none⟩=some (.slice A l.length c):=by
  rw[World.cell?_alloc_past _ _ _ (by show g<w2.heap.size;omega)];exact hk2
 have HST:=Lib.hid hst;clear hst;go_wp2;generalize (w2.alloc (.cells #[.int .u8 p,.int .u8 q] 5))=W0 at HST hka ⊢;obtain ⟨i0,hi,hz0,hz1,hz2⟩:=info_parts info5;clear hka hk2 hbel hs2
 rename g<w.heap.size=>hgl
 go_loopw [3,29] (fun v i wr=>∃(k:Nat) (acc:List UInt8),k<=l.length/\i=.int .i64 k/\BSt w wr l k v acc) (fun _ i _=>l.length-(intOf i).toNat)
 case atStart=>exact ⟨0,_,Nat.zero_le _,rfl,HST.out⟩
 case round=>
  obtain ⟨k,acc,hk,rfl,hst⟩:=hrel;by_cases hlt:k<l.length
  · obtain ⟨ad,rfl,hc⟩:=(HS.out.below hst.below).str hlt;have k1:wr.cell? ⟨g,0,none⟩=some (.slice (some ad) l.length c):=(hst.below.cell (p:=⟨g,0,none⟩) hgl).trans k0;obtain ⟨_,hs1,hs2,_⟩:=HM.out.2 k hlt;have hal:=hst.len;have hrs:=hst.below.size;have HST1:=Lib.hid hst;by_cases hm:k % 4=0
    · have hmb:(((k:Int) % 4) != 0)=false:=bne_eq_false_iff_eq.2 (by omega);have HE:Hid (bys (ent k (prv l k) l[k].data.toList)=[.int .u8 0,.int .u8 (l[k].size:Int)]++strCells l[k]):=by
       have h:=zle k 0 (prv l k) l[k] (by unfold com;rw[if_pos hm]) hs2;show bys (ent k (prv l k) l[k].data.toList)=[.int .u8 0,.int .u8 (l[k].size:Int)]++strCells l[k];simpa using h
      have HSTEP:Hid (∀w2 v',w2.ownsRow w.heap.size 5 1 v' (acc++ent k (prv l k) l[k].data.toList).length (bys (acc++ent k (prv l k) l[k].data.toList))->Below w.heap.size w w2->BSt w w2 l (k+1) v' (acc++ent k (prv l k) l[k].data.toList)):=fun w2 v' h1 h2=>hst.step hlt hs2 h1 h2;have HL:Hid ((ent k (prv l k) l[k].data.toList).length=2+l[k].size):=by
       show (ent k (prv l k) l[k].data.toList).length=2+l[k].size;rw[zhF];unfold com;rw[if_pos hm];rfl
      clear hst hm;generalize ent k (prv l k) l[k].data.toList=E at HE HSTEP HL;generalize l[k]=s at hc hs1 hs2 HE HL;go_wp2_with (at_builtin;refine wpList_append_own _ rfl (.tmp 47) (.tmp 55) 32 rfl w.heap.size 5 i0 (.int .u8 0) 1 1 underlying32 hi hz0 hz1 hz2 rfl (by decide) _ acc.length (bys acc) rfl (HST1.out.own.alloc _) ⟨wr.heap.size,0,none⟩ 2 2 [.int .u8 0,.int .u8 (s.size:Int)] rfl rfl ?c1 ?c2 ?c3 ?c4 ?c5 ?_)
      case c1=>intro j u hj;match j,hj with | 0,hj=>simp at hj;subst hj;simp[Addr.add] | 1,hj=>simp at hj;subst hj;simp[Addr.add]
      case c2=>intro u hu;simp at hu;rcases hu with rfl | rfl<;>rfl
      case c3=>unfold maxLen;omega
      case c4=>omega
      case c5=>simp;omega
      intro v1 w3 hown1 hg1 _;have hb3:Below w.heap.size w w3:=(HST1.out.below.alloc hrs _).grown hg1 (by simp;omega) (fun j hj=>(HST1.out.own.lt j hj).1);have hrs3:=hb3.size;go_wp2_with (at_builtin;refine wpList_append_own_string _ rfl (.tmp 57) (.tmp 60) 32 9 rfl w.heap.size 5 i0 underlying32 underlying9 hi hz0 hz1 hz2 v1 (acc.length+2) (bys acc++[.int .u8 0,.int .u8 (s.size:Int)]) rfl hown1 s rfl ?d1 ?d2 ?d3 ?_)
      case d1=>unfold maxLen;omega
      case d2=>omega
      case d3=>exact hrs3
      intro v2 w4 hown2 hg2 _;have hb4:Below w.heap.size w w4:=hb3.grown hg2 hrs3 (fun j hj=>(hown1.lt j hj).1)
      have hnext:=HSTEP.out w4 v2 (by
       rw[zhQ,HE.out,List.length_append,HL.out];rw[Nat.add_assoc]at hown2;exact hown2) hb4
      have HNEXT:=Lib.hid hnext;clear hnext hown1 hown2 hg1 hg2 hb3 hb4;go_wp2;go_roundw
      case rel=>exact ⟨k+1,_,by omega,by go_num,HNEXT.out⟩
      case measure=>simp[intOf];omega
    · have hmb:(((k:Int) % 4) != 0)=true:=(by rw[bne_iff_ne];omega);have hk0:0<k:=(by omega);obtain ⟨ad',e,hc'⟩:=(HS.out.below HST1.out.below).str (k:=k-1) (by omega);cases e
      have hcall:=fun W=>zfV l[k-1] l[k] W (by
       obtain ⟨_,_,h250,_⟩:=HM.out.2 (k-1) (by omega);omega)
      obtain ⟨n,hn⟩:∃n,com k (prv l k) l[k].data.toList=n:=⟨_,rfl⟩;have hnc:shr l[k-1].data.toList l[k].data.toList=n:=by
       rw[<-hn,znb l k (by omega)];unfold com;rw[if_neg hm]
      rw[hnc]at hcall;have hnle:n<=l[k].size:=by
       have:=(zla k (prv l k) l[k].data.toList).2;rw[hn,Array.length_toList]at this;exact this
      have HE:Hid (bys (ent k (prv l k) l[k].data.toList)=[.int .u8 (n:Int),.int .u8 ((l[k].size:Int)-(n:Int))]++strCells (l[k].extract n l[k].size)):=zle k n (prv l k) l[k] hn hs2;have HSTEP:Hid (∀w2 v',w2.ownsRow w.heap.size 5 1 v' (acc++ent k (prv l k) l[k].data.toList).length (bys (acc++ent k (prv l k) l[k].data.toList))->Below w.heap.size w w2->BSt w w2 l (k+1) v' (acc++ent k (prv l k) l[k].data.toList)):=fun w2 v' h1 h2=>hst.step hlt hs2 h1 h2;have HL:Hid ((ent k (prv l k) l[k].data.toList).length=2+(l[k].size-n)):=by
       show (ent k (prv l k) l[k].data.toList).length=2+(l[k].size-n);rw[zhF,hn];rfl
      have HCALL:=Lib.hid hcall;clear hst hm hn hnc hcall;generalize ent k (prv l k) l[k].data.toList=E at HE HSTEP HL;generalize l[k]=s at hc hs1 hs2 HE HL HCALL hnle;generalize l[k-1]=p0 at hc' HCALL;go_wp2_with fail
      refine (HCALL.out _).mono ?_;rintro e w' ⟨rfl,nq,rfl⟩;go_wp2_with (at_builtin;refine wpList_append_own _ rfl (.tmp 47) (.tmp 55) 32 rfl w.heap.size 5 i0 (.int .u8 0) 1 1 underlying32 hi hz0 hz1 hz2 rfl (by decide) _ acc.length (bys acc) rfl ((HST1.out.own.drewFd nq).alloc _) ⟨wr.heap.size,0,none⟩ 2 2 [.int .u8 (n:Int),.int .u8 ((s.size:Int)-(n:Int))] rfl rfl ?cc1 ?cc2 ?cc3 ?cc4 ?cc5 ?_)
      case cc1=>exact fun j u hj=>by rw[add_zero'];exact zgK (wr.drewN nq) _ 5 j u hj
      case cc2=>intro u hu;simp at hu;rcases hu with rfl | rfl<;>rfl
      case cc3=>unfold maxLen;omega
      case cc4=>omega
      case cc5=>simp;omega
      intro v1 w3 hown1 hg1 _;have hb3:Below w.heap.size w w3:=((below_drewN' HST1.out.below nq).alloc hrs _).grown hg1 (by simp;omega) (fun j hj=>(HST1.out.own.lt j hj).1);have hrs3:=hb3.size;go_wp2_with (at_builtin;refine wpList_append_own_string _ rfl (.tmp 57) (.tmp 60) 32 9 rfl w.heap.size 5 i0 underlying32 underlying9 hi hz0 hz1 hz2 v1 (acc.length+2) (bys acc++[.int .u8 (n:Int),.int .u8 ((s.size:Int)-(n:Int))]) rfl hown1 (s.extract n s.size) rfl ?dd1 ?dd2 ?dd3 ?_)
      case dd1=>rw[zcI];unfold maxLen;omega
      case dd2=>rw[zcI];omega
      case dd3=>exact hrs3
      intro v2 w4 hown2 hg2 _;have hb4:Below w.heap.size w w4:=hb3.grown hg2 hrs3 (fun j hj=>(hown1.lt j hj).1)
      have hnext:=HSTEP.out w4 v2 (by
       rw[zhQ,HE.out,List.length_append,HL.out];rw[Nat.add_assoc]at hown2;exact hown2) hb4
      have HNEXT:=Lib.hid hnext;clear hnext hown1 hown2 hg1 hg2 hb3 hb4;go_wp2;go_roundw
      case rel=>exact ⟨k+1,_,by omega,by go_num,HNEXT.out⟩
      case measure=>simp[intOf];omega
  · have hkl:k=l.length:=(by omega);have HE:Hid (acc=enc (tx l)):=by
     have:=hst.eq;rw[hkl,List.drop_of_length_le (by rw[zfL];exact nL)]at this;show acc=enc (tx l);rw[<-this];show acc=acc++[];simp
    have HST1:=Lib.hid hst;clear hst hkl;go_wp2;go_ret;exact ⟨_,rfl,by rw[<-HE.out];exact HST1.out.own,HST1.out.below⟩
end Go.Proofs.YtaeiifngjglchaaGreatDoor.Fd
end
section
namespace Go.Proofs.YtaeiifngjglchaaGreatDoor
open Go.Proofs.Tryz
open Go.RowKit Go.Lib
def SegK (w:World) (A:Option Addr) (m size:Nat) (news:List Value):Prop:=news.length=m*size/\(0<m->∃ad,A=some ad/\∀j u,news[j]?=some u->w.cell? (ad.add j)=some u)
theorem SegK.nil (w:World) (A:Option Addr) (size:Nat):SegK w A 0 size []:=⟨by simp,fun h=>absurd h (by omega)⟩
theorem zee {P:Program} (w:World) (base:Nat) (t ty e:TypeId) (i:TypeInfo) (z:Value) (size bytes:Nat) (ht:P.underlying t=some (.slice e)) (hi:P.info? e=some i) (hz:i.zero=some z)
    (hsize:i.size=size) (hby:i.bytes=bytes) (hzs:z.cells.size=size) (hsz:0<size)
    (v:Value) (n:Nat) (xs:List Value) (hown:w.ownsRow base e size v n xs)
    (A:Option Addr) (m c:Nat) (news:List Value) (hseg:SegK w A m size news) (h1:∀u∈news,u.oneCell'=true)
    (h63:n+m<=maxLen) (hbytes:(n+m)*bytes<=140737488355328) (hbase:base<=w.heap.size) :
    ∃v' w',(Builtin.append_ #[t,t] ty #[v,.slice A m c]).run P w=.ok v' w'/\w'.ownsRow base e size v' (n+m) (xs++news)/\w.grownBy w' v.ownBlock:=by
 obtain ⟨hl,hc⟩:=hseg;cases A with
 | none=>
  have hm:m=0:=by
   rcases Nat.eq_zero_or_pos m with h0 | h0
   · exact h0
   · obtain ⟨ad,e,_⟩:=hc h0;cases e
  subst hm;obtain rfl:news=[]:=List.eq_nil_of_length_eq_zero (by omega);exact ⟨v,w,Fd.za1 (P:=P) w base t ty e i size ht hi v n xs hown c,by simpa using hown,World.grownBy.refl w _⟩
 | some ad=>
  obtain ⟨v',w',h2,h3,h4,_⟩:=run_append_own (P:=P) w base t ty e i z size bytes ht hi hz hsize hby hzs hsz v n xs hown ad m c news hl (fun j u hu=>by
   have hm:0<m:=by
    rcases Nat.eq_zero_or_pos m with h0 | h0
    · subst h0;have:=(List.getElem?_eq_some_iff.1 hu).1;omega
    · exact h0
   obtain ⟨ad',e,h⟩:=hc hm;cases e
   exact h j u hu) h1 h63 hbytes hbase
  exact ⟨v',w',h2,h3,h4⟩
theorem zaX {P:Program} {w:World} {ops:Array Oper} {o:Oper} {a:Act} {K:Act->World->Prop} {Q:Exit->Act->World->Prop} {E:Prop} (hgd:o.guard=none) (s x:Operand) (t:TypeId)
    (ho:o.op=.call { callee:=.builtin .append,args:=#[s,x],argTypes:=#[t,t] })
    (base:Nat) (e:TypeId) (i:TypeInfo) (z:Value) (size bytes:Nat) (ht:P.underlying t=some (.slice e)) (hi:P.info? e=some i) (hz:i.zero=some z)
    (hsize:i.size=size) (hby:i.bytes=bytes) (hzs:z.cells.size=size) (hsz:0<size)
    (v:Value) (n:Nat) (xs:List Value) (hs:a.eval s=v) (hown:w.ownsRow base e size v n xs)
    (A:Option Addr) (m c:Nat) (news:List Value) (hx:a.eval x=.slice A m c) (hseg:SegK w A m size news) (h1:∀u∈news,u.oneCell'=true)
    (h63:n+m<=maxLen) (hbytes:(n+m)*bytes<=140737488355328) (hbase:base<=w.heap.size)
    (h:∀v' w',w'.ownsRow base e size v' (n+m) (xs++news)->w.grownBy w' v.ownBlock->K (a.put o.dst v') w') :
    if Region.wanted o (yielded ops a.tmps)=true then Oper.wp P o a w K Q else E:=by
 have hw:Region.wanted o (yielded ops a.tmps)=true:=(by simp[Region.wanted,hgd]);rw[if_pos hw];obtain ⟨v',w',hrun,r1,r2⟩:=zee (P:=P) w base t o.type e i z size bytes ht hi hz hsize hby hzs hsz v n xs hown A m c news hseg h1 h63 hbytes hbase;unfold Oper.wp;simp[execOp,ho,resolve,invoke,builtin,hs,hx,hrun,Result.andThen];exact h v' w' r1 r2
section
variable {α:Type} {enc:α->List Value} {k:Nat}
theorem zkO (hk:∀x,(enc x).length=k) (l:List α) (i:Nat):(l.take i).flatMap enc=(l.flatMap enc).take (i*k):=by
 induction l generalizing i with
 | nil=>simp
 | cons x l ih=>
  cases i with
  | zero=>simp
  | succ i=>
   rw[List.take_succ_cons,List.flatMap_cons,List.flatMap_cons,ih i,List.take_append,hk]
   congr 1
   · rw[List.take_of_length_le (by rw[hk,Nat.add_mul];omega)]
   · rw[Nat.add_mul,Nat.one_mul,Nat.add_sub_cancel]
theorem zkP (hk:∀x,(enc x).length=k) (l:List α) (i:Nat):(l.drop i).flatMap enc=(l.flatMap enc).drop (i*k):=by
 induction l generalizing i with
 | nil=>simp
 | cons x l ih=>
  cases i with
  | zero=>simp
  | succ i=>
   have h0:(enc x).drop ((i+1)*k)=[]:=List.drop_of_length_le (by rw[hk,Nat.add_mul];omega);rw[List.drop_succ_cons,List.flatMap_cons,ih i,List.drop_append,hk,h0,List.nil_append,Nat.add_mul,Nat.one_mul,Nat.add_sub_cancel]
theorem zcU (hk:∀x,(enc x).length=k) {w:World} {B n g cap:Nat} {e:TypeId} {l:List α} (h:w.ownsRow B e k (.slice (some ⟨g,0,none⟩) n cap) n (l.flatMap enc)) (hn:l.length=n) (i:Nat) (hi:i<=n):SegK w (some ⟨g,0,none⟩) i k ((l.take i).flatMap enc):=by
 refine ⟨by rw[zaD hk,List.length_take];congr 1;omega,fun _=>⟨_,rfl,fun j u hu=>?_⟩⟩;rcases zaf h with ⟨h,_⟩ | ⟨g',cap',hv,_,_,_,hc⟩
 · cases h
 · cases hv
   rw[Fd.add_zero'];rw[zkO hk,List.getElem?_take]at hu;split at hu
   · exact hc j u hu
   · cases hu
theorem addr_add (g o j:Nat):(⟨g,o,none⟩:Addr).add j=⟨g,o+j,none⟩:=by
 cases j with
 | zero=>rfl
 | succ j=>simp[Addr.add]
theorem zh3 (hk:∀x,(enc x).length=k) {w:World} {B n g cap:Nat} {e:TypeId} {l:List α} (h:w.ownsRow B e k (.slice (some ⟨g,0,none⟩) n cap) n (l.flatMap enc)) (hn:l.length=n) (i:Nat) (A:Option Addr) (hA:i<n->A=some ⟨g,i*k,none⟩):SegK w A (n-i) k ((l.drop i).flatMap enc):=by
 refine ⟨by rw[zaD hk,List.length_drop];congr 1;omega,fun h0=>⟨_,hA (by omega),fun j u hu=>?_⟩⟩;rcases zaf h with ⟨h,_⟩ | ⟨g',cap',hv,_,_,_,hc⟩
 · cases h
 · cases hv
   rw[addr_add];rw[zkP hk,List.getElem?_drop]at hu;exact hc _ u hu
end
def PutIs {β:Type} (lt:β->β->Bool) (r:List β) (x:β) (r':List β):Prop:=
 (x∈r/\r'=r)\/∃i,Spot lt r x i/\(∀y,r[i]?=some y->lt x y=true)/\r'=r.take i++x::r.drop i
theorem PutIs.sort {β:Type} {lt:β->β->Bool} (hO:Go.Sort.SWO lt) {A r r':List β} {x:β} (h:PutIs lt r x r') (hs:SortB lt A r):SortB lt (A++[x]) r':=by
 rcases h with ⟨h1,rfl⟩ | ⟨i,h1,h2,rfl⟩
 · exact hs.skip h1
 · exact hs.put hO h1 h2
theorem PutIs.len {β:Type} {lt:β->β->Bool} {r r':List β} {x:β} (h:PutIs lt r x r'):r'.length<=r.length+1:=by
 rcases h with ⟨_,rfl⟩ | ⟨i,_,_,rfl⟩
 · omega
 · rw[List.length_append,List.length_take,List.length_cons,List.length_drop];omega
end Go.Proofs.YtaeiifngjglchaaGreatDoor
end
section
namespace Go.Proofs.YtaeiifngjglchaaGreatDoor
open Go.Proofs.Tryz
open Go.RowKit Go.Lib Go.Proofs.YtaeiifngjglchaaGreatDoorW.PrintWords
theorem C_int {k:IntKind} {w:World} {A:Option Addr} {n:Nat} {xs:List Int} (hn:n<=9223372036854775807) (h:Fd.Seg w A n (nums k xs)):(Kd.int k).C w A n xs:=by
 have hl:xs.length=n:=(by rw[<-h.len,nums_length]);refine ⟨hl,hn,fun h0=>?_⟩;obtain ⟨ad,e,hc⟩:=h.cell h0;refine ⟨ad,e,fun j p hj=>⟨[.int k p],rfl,rfl,fun i u hi=>?_⟩⟩
 match i,hi with
 | 0,hi=>
  simp only[List.getElem?_cons_zero,Option.some.injEq]at hi;subst hi;have:=hc j (.int k p) (by unfold nums;rw[List.getElem?_map,hj];rfl);rw[show j*(Kd.int k).sz+0=j from Nat.mul_one j];exact this
theorem R_int {k:IntKind} {e:Nat} {w:World} {base:Nat} {ok:Nat->Prop} {v:Value} {xs:List Int} (h:(Kd.int k).R e w base ok v xs):w.ownsRow base e 1 v xs.length (nums k xs):=by
 obtain ⟨_,inner,ho,hr⟩:=h;have e1:inner=nums k xs:=by
  apply List.ext_getElem?;intro j;by_cases hj:j<xs.length
  · have h1:=hr.2 j xs[j] (List.getElem?_eq_getElem hj);have h2:(inner.drop (j*1)).take 1=[.int k xs[j]]:=h1;rw[Nat.mul_one]at h2;have h3:inner[j]?=some (.int k xs[j]):=by
     have:=congrArg (fun l=>l[0]?) h2;simp only[List.getElem?_take,List.getElem?_drop,Nat.add_zero,List.getElem?_cons_zero]at this;simpa using this
    rw[h3];unfold nums;rw[List.getElem?_map,List.getElem?_eq_getElem hj];rfl
  · have hi:inner.length=xs.length:=(by have:=ho.1;rw[this];exact Nat.mul_one _);rw[List.getElem?_eq_none (by omega),List.getElem?_eq_none (by rw[nums_length];omega)]
 rw[<-e1];exact ho
theorem zl8 (l:List UInt8):nums .u8 (l.map fun b=>(b.toNat:Int))=Fd.bys l:=by
 unfold nums Fd.bys;rw[List.map_map];rfl
theorem zam {w:World} {b b':Nat} {e:TypeId} {s n:Nat} {v:Value} {xs:List Value} (h:w.ownsRow b e s v n xs) (hb:b'<=b):w.ownsRow b' e s v n xs:=by
 obtain ⟨h1,h⟩:=h;rcases h with h | ⟨g,cap,cur,hv,hg,r⟩
 · exact ⟨h1,.inl h⟩
 · exact ⟨h1,.inr ⟨g,cap,cur,hv,Nat.le_trans hb hg,r⟩⟩
theorem zho {w:World} {b:Nat} {e t:TypeId} {s n S:Nat} {v:Value} {xs:List Value} {cells:Array Value} (h:w.ownsRow b e s v n xs) (hS:w.heap[S]?=some (.cells cells t (0,0))) (hne:e≠t):∀k,v.ownBlock=some k->¬k=S:=by
 rintro k hk rfl;rcases h.2 with ⟨rfl,_⟩ | ⟨g,cap,cur,rfl,_,hh,_⟩
 · simp[Value.ownBlock]at hk
 · simp only[Value.ownBlock,Option.some.injEq]at hk;subst hk;rw[hh]at hS;injection hS with hS;injection hS with _ ht;exact hne ht
theorem _root_.Go.Proofs.YtaeiifngjglchaaGreatDoor.Fd.own_le' {w:World} {b:Nat} {e:TypeId} {s n:Nat} {A:Option Addr} {c:Nat} {xs:List Value} (h:w.ownsRow b e s (.slice A n c) n xs):n<=c:=by
 rcases h.2 with ⟨hv,h0⟩ | ⟨g,cap,cur,hv,_,_,hn,_⟩
 · omega
 · cases hv;exact hn
end Go.Proofs.YtaeiifngjglchaaGreatDoor
end
