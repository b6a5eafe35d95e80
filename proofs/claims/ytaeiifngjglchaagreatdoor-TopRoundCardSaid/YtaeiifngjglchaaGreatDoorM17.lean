/- Proved on the way: A map of triples that have come: what it; A text cut at its first line's end: plai; What Len, Extract of a Dict answer; Bytes as a string; Bytes of a text as a slice; What bytes are the bytes of: no program; What Read answers. Each theorem states its own conditions. -/
import Derived.RangeFuncOwn
import Derived.Test.YtaeiifngjglchaaGreatDoorM14
import Derived.Test.YtaeiifngjglchaaGreatDoorM10
set_option maxHeartbeats 16000000
set_option maxRecDepth 1000000
set_option linter.unusedSimpArgs false
section
namespace Go.Proofs.YtaeiifngjglchaaGreatDoor
open Go.Proofs.Tryz
open Go.RowKit Go.Lib Tv Go.Maps
def KeyT (t:Tri):Prop:=∃l,keyOf prog 110 (.agg (encTri t).toArray)=some l
def MapIs (w:World) (b:Nat) (L:List Tri):Prop:=∃es clock,w.heap[b]?=some (.map es clock)/\(es.toList.map fun e=>(e.key,e.val))=L.map fun t=>(Value.agg (encTri t).toArray,Value.bool true)
theorem zjp {s t:Tri} (h:encTri s=encTri t):s=t:=by
 obtain ⟨⟨a,b,c⟩,⟨d,e,f⟩,⟨g,i,j⟩⟩:=s;obtain ⟨⟨a',b',c'⟩,⟨d',e',f'⟩,⟨g',i',j'⟩⟩:=t;have hs:∀{x y:Bs},str x=str y->x=y:=fun {x y} h=>by
  have:=congrArg (fun z:ByteArray=>z.data.toList) h;simpa [zad] using this
 unfold encTri encT at h;simp only[List.cons_append,List.nil_append,List.cons.injEq,Value.int.injEq,Value.string.injEq,true_and,and_true]at h;obtain ⟨h1,h2,h3,h4,h5,h6,h7,h8,h9⟩:=h;subst h1;subst h4;subst h7
 rw[hs h2,hs h3,hs h5,hs h6,hs h8,hs h9]
theorem zh6 {w:World} {es:Array MapEntry} {L:List Tri} (he:(es.toList.map fun e=>(e.key,e.val))=L.map fun t=>(Value.agg (encTri t).toArray,Value.bool true)) (hL:∀t∈L,KeyT t) (t:Tri) (ht:KeyT t) :
    (t∈L/\∃j,(Instr.findKey 110 (.agg (encTri t).toArray) es.toList).run prog w=.ok (some (j,.bool true)) w)\/(t∉L/\(Instr.findKey 110 (.agg (encTri t).toArray) es.toList).run prog w=.ok none w):=by
 obtain ⟨lx,hx⟩:=ht;have hmem:∀e∈es.toList,∃s∈L,e.key=.agg (encTri s).toArray/\e.val=.bool true:=by
  intro e h;have:(e.key,e.val)∈L.map fun t=>(Value.agg (encTri t).toArray,Value.bool true):=(by rw[<-he];exact List.mem_map.2 ⟨e,h,rfl⟩);obtain ⟨s,hs,h2⟩:=List.mem_map.1 this;have h3:=Prod.mk.inj h2;exact ⟨s,hs,h3.1.symm,h3.2.symm⟩
 have hinj:∀{s:Tri},Value.agg (encTri s).toArray=.agg (encTri t).toArray->s=t:=fun {s} h=>by
  have h':=Value.agg.inj h;exact zjp (List.toArray_inj h')
 rcases zde.find w hx es.toList (fun e h=>by obtain ⟨s,hs,h2,_⟩:=hmem e h;rw[h2];exact hL s hs) with ⟨h1,h2⟩ | ⟨j,e,h1,h2,h3⟩
 · refine .inr ⟨fun hin=>?_,h1⟩;have:(Value.agg (encTri t).toArray,Value.bool true)∈es.toList.map fun e=>(e.key,e.val):=(by rw[he];exact List.mem_map.2 ⟨t,hin,rfl⟩);obtain ⟨e,hein,hee⟩:=List.mem_map.1 this;exact h2 e hein (Prod.mk.inj hee).1
 · obtain ⟨s,hs,h4,h5⟩:=hmem e (List.mem_of_getElem? h2);rw[h5]at h1;obtain rfl:=hinj (h4.symm.trans h3);exact .inl ⟨hs,j,h1⟩
theorem zh5 {w:World} {b:Nat} {L:List Tri} (h:MapIs w b L) (hL:∀t∈L,KeyT t) (t:Tri) (ht:KeyT t) :
    (Instr.lookup 111 (.map (some b)) (.agg (encTri t).toArray) false).run prog w=.ok (.bool (decide (t∈L))) w:=by
 obtain ⟨es,clock,hb,he⟩:=h;obtain ⟨lx,hx⟩:=id ht;have hc:=zde.check w es.isEmpty hx;have hz:(zeroValue 4).run prog w=.ok (.bool false) w:=Tryz.zeroValue4 w;have hg:(getObj b).run prog w=.ok (.map es clock) w:=(by simp[getObj,Sem.run,hb]);rcases zh6 (w:=w) he hL t ht with ⟨h1,j,h2⟩ | ⟨h1,h2⟩
 · rw[dT h1];simp[Instr.lookup,go_sem,hg,hc,h2]
 · rw[dF h1];simp[Instr.lookup,go_sem,hg,hc,h2,hz]
theorem zjZ {w:World} {b:Nat} {L:List Tri} (h:MapIs w b L) (hL:∀t∈L,KeyT t) (t:Tri) (ht:KeyT t) (hn:t∉L) :
    ∃o,(Instr.mapUpdate 111 (.map (some b)) (.agg (encTri t).toArray) (.bool true)).run prog w=.ok () (w.putObj b o)/\MapIs (w.putObj b o) b (L++[t]):=by
 obtain ⟨es,clock,hb,he⟩:=h;obtain ⟨lx,hx⟩:=id ht;have hc:=zde.check w false hx;have hg:(getObj b).run prog w=.ok (.map es clock) w:=(by simp[getObj,Sem.run,hb]);have hlt:b<w.heap.size:=(Array.getElem?_eq_some_iff.1 hb).1;have hp:∀o,(setObj b o).run prog w=.ok () (w.putObj b o):=fun o=>by
  have hbb:=(Array.getElem?_eq_some_iff.1 hb).2;simp[setObj,Sem.run,World.putObj,hlt,hbb]
 rcases zh6 (w:=w) he hL t ht with ⟨h1,_⟩ | ⟨_,h2⟩
 · exact absurd h1 hn
 · refine ⟨.map (es.push { key:=.agg (encTri t).toArray,val:=.bool true,born:=clock }) (clock+1),?_,_,_,World.putObj_heap_same hlt,?_⟩
   · simp[Instr.mapUpdate,go_sem,hg,hc,h2,hp]
   · simp[he]
end Go.Proofs.YtaeiifngjglchaaGreatDoor
end
section
namespace Go.Proofs.YtaeiifngjglchaaGreatDoor.Tv
open Go.Proofs.Tryz
open Go.Lib
theorem zni:∀s:Bs,cut s [10]=(lnA s,lnB s,lnE s)
 | []=>by decide
 | c::s=>by
  have ih:=zni s;have hi:=zbI 10 c s;unfold cut at ih ⊢;by_cases hc:c=10
  · subst hc;rw[zbI,if_pos rfl];simp[lnA,lnB,lnE]
  · have h1:index (c::s) [10]=if index s [10] = -1 then -1 else index s [10]+1:=by rw[zbI,if_neg hc]
    have hge:=index_ge 10 s;have hA:lnA (c::s)=c::lnA s:=(by simp[lnA,hc]);have hB:lnB (c::s)=lnB s:=(by simp[lnB,hc]);have hE:lnE (c::s)=lnE s:=(by simp[lnE,hc]);rw[h1,hA,hB,hE];by_cases hm:index s [10] = -1
    · rw[hm]at ih ⊢;simp at ih ⊢;exact ih
    · rw[if_neg hm];rw[if_pos (by omega)]at ih;rw[if_pos (by omega)];have e:(index s [10]+1).toNat=(index s [10]).toNat+1:=(by omega);have h2:=Prod.mk.inj ih;have h3:=Prod.mk.inj h2.2;rw[e,<-h2.1,<-h3.1,<-h3.2,List.take_succ_cons]
      congr 2
theorem znq (l:Bs):trimSuffix l [13]=cr l:=by
 unfold trimSuffix hasSuffix cr;rcases List.eq_nil_or_concat l with rfl | ⟨m,c,rfl⟩
 · rfl
 · by_cases hc:c=13
   · subst hc;simp
   · simp[hc];exact fun h=>hc h.symm
end Go.Proofs.YtaeiifngjglchaaGreatDoor.Tv
end
section
namespace Go.Proofs.YtaeiifngjglchaaGreatDoor.Fd
open Go.Proofs.Tryz
open Go.RowKit Go.Lib Fp
theorem May.small {l:List ByteArray} (h:May l):∀s∈tx l,s.length<=250:=by
 intro s hs;obtain ⟨b,hb,rfl⟩:=List.mem_map.1 hs;obtain ⟨i,hi,rfl⟩:=List.getElem_of_mem hb;obtain ⟨_,_,h2,_⟩:=h.2 i hi;rw[Array.length_toList];exact h2
theorem ba_eq {a b:ByteArray}:a=b↔a.data.toList=b.data.toList:=⟨fun h=>by rw[h],fun h=>WideShapes.bytes_inj h⟩
theorem all_calls (g:Nat) (A:Option Addr) (n c:Nat) (w:World) (hb:w.heap[g]?=some (.cells #[.slice A n c] 173 (0,0))) :
    Calls prog 83 #[.pointer (some ⟨g,0,none⟩)] w fun e w'=>e=.returned (.slice A n c)/\w=w':=by
 have k0:w.cell? ⟨g,0,none⟩=some (.slice A n c):=(by rw[cell_of_row w g 0 _ 173 (0,0) hb];rfl);clear hb;go_enter func83,ntmps83
 go_wp2;go_ret;exact ⟨rfl,rfl⟩
theorem zgh (g:Nat) (l:List ByteArray) (w:World) (h:Dic w g l) :
    Calls prog 33 #[.pointer (some ⟨g,0,none⟩)] w fun e w'=>e=.returned (.int .i64 l.length)/\w=w':=by
 obtain ⟨A,c,hb,_⟩:=h.ex;have hal:=all_calls g A l.length c w hb;clear h hb;go_enter func33,ntmps33
 go_wp2_with (go_at_call 83;refine hal.mono ?_;rintro e w' ⟨rfl,rfl⟩)
 go_ret;exact ⟨rfl,rfl⟩
def extZ (l:List ByteArray) (id:Int):ByteArray:=if h:1<=id/\id<=l.length then l[(id-1).toNat]'(by omega) else ByteArray.empty
theorem zdV (g:Nat) (l:List ByteArray) (id:Int) (w:World) (h:Dic w g l) :
    Calls prog 86 #[.pointer (some ⟨g,0,none⟩),.int .i64 id] w fun e w'=>e=.returned (.string (extZ l id))/\w=w':=by
 have hL:=zgh g l w h;obtain ⟨A,c,hb,hs⟩:=h.ex;have hlen:=h.may.1;have k0:w.cell? ⟨g,0,none⟩=some (.slice A l.length c):=(by rw[cell_of_row w g 0 _ 173 (0,0) hb];rfl);by_cases h0:1<=id
 · by_cases h1:id<=l.length
   · obtain ⟨m,rfl⟩:∃m:Nat,id=(m:Int):=⟨id.toNat,by omega⟩;obtain ⟨ad,rfl,hc⟩:=hs.str (k:=m-1) (by omega);have he:extZ l (m:Int)=l[m-1]'(by omega):=(by unfold extZ;rw[dif_pos ⟨h0,h1⟩];congr 1;omega);rw[<-he]at hc;generalize extZ l (m:Int)=s at hc ⊢;clear hs hb h he;go_enter func86,ntmps86
     go_wp2_with (go_at_call 33;refine hL.mono ?_;rintro e w' ⟨rfl,rfl⟩)
     go_ret;exact ⟨rfl,rfl⟩
   · have he:extZ l id=ByteArray.empty:=(by unfold extZ;rw[dif_neg (by omega)]);rw[he];clear hs hb h he;go_enter func86,ntmps86
     go_wp2_with (go_at_call 33;refine hL.mono ?_;rintro e w' ⟨rfl,rfl⟩)
     go_ret;exact ⟨rfl,rfl⟩
 · have he:extZ l id=ByteArray.empty:=(by unfold extZ;rw[dif_neg (by omega)]);rw[he];clear hs hb h he;go_enter func86,ntmps86
   go_wp2_with (go_at_call 33;refine hL.mono ?_;rintro e w' ⟨rfl,rfl⟩)
   go_ret;exact ⟨rfl,rfl⟩
theorem zih (l:List UInt8):strOfNums (l.map fun b=>(b.toNat:Int))=str l:=by
 unfold strOfNums str
 congr 1
 rw[List.map_map]
 congr 1
 conv=>rhs;rw[<-List.map_id l]
 apply List.map_congr_left;intro b _;simp
theorem zc3 (w:World) (A:Option Addr) (n c:Nat) (l:List UInt8) (h:Seg w A n (bys l)):(convert 32 9 (.slice A n c)).run prog w=.ok (.string (str l)) w:=by
 rcases Nat.eq_zero_or_pos n with h0 | h0
 · subst h0;obtain rfl:l=[]:=by
    have:=h.len;rw[zbA]at this;exact List.eq_nil_of_length_eq_zero this
   cases A with
   | none=>exact run_convert_bytes_nil (P:=prog) w 32 5 underlying32 underlying5 0 c 9 underlying9
   | some ad=>
    rw[run_convert_bytes_string w 32 9 5 _ 0 c underlying32 underlying5 underlying9];simp[Conv.bytesToString,loadCells];rfl
 · obtain ⟨⟨b,off,sp⟩,e,hc⟩:=h.cell h0;have hlen:l.length=n:=(by rw[<-zbA];exact h.len);obtain rfl:sp=none:=by
    have:=hc 0 _ (List.getElem?_eq_getElem (by rw[zbA];omega));simpa [Addr.add] using World.cell?_spot this
   subst e;rw[<-zih];refine run_convert_bytes_arg (P:=prog) w 32 5 underlying32 underlying5 b off n c (l.map fun b=>(b.toNat:Int)) (by simpa using hlen) ?_ 9 underlying9;intro j hj;have:=hc j (.int .u8 ((l[j]'(by omega)).toNat:Int)) (by simp[bys,hlen,hj]);rw[WideShapes.add_plain]at this;rw[this];simp[List.getD,hlen,hj]
theorem bytesWorld_below (w:World) (s:ByteArray):RowKit.Below w.heap.size w (Lib.bytesWorld w 5 s):=
 ⟨rfl,rfl,rfl,by rw[Lib.bytesWorld_size];omega,fun i hi=>Lib.bytesWorld_at_old w 5 s i hi⟩
theorem run_conv (w:World) (s:ByteArray):(convert 9 32 (.string s)).run prog w=.ok (.slice (some ⟨w.heap.size,0,none⟩) s.size (grownCap w s.size 0 5)) (Lib.bytesWorld w 5 s):=
 Lib.run_convert_string_bytes w 9 32 5 s underlying9 underlying32 underlying5
theorem hd4 (n:Nat):((UInt8.ofNat n).toNat:Int)=(n:Int) % 256:=by
 rw[UInt8.toNat_ofNat'];omega
def Rd (b:List UInt8) (l:List ByteArray):Prop:=May l/\enc (tx l)=b
theorem zjE:∀{l l':List ByteArray},tx l=tx l'->l=l'
 | [],[],_=>rfl
 | [],_::_,h=>by simp[tx]at h
 | _::_,[],h=>by simp[tx]at h
 | a::l,b::l',h=>by
  unfold tx at h;rw[List.map_cons,List.map_cons]at h;injection h with h1 h2;rw[ba_eq.2 h1,zjE (l:=l) (l':=l') h2]
theorem Rd.dec {b:List UInt8} {l:List ByteArray} (h:Rd b l):decB b=some (tx l):=by
 have:=(zmT (tx l) h.1.small (by rw[zfL];exact h.1.1) []).1;rwa[List.append_nil,h.2]at this
theorem Rd.uniq {b:List UInt8} {l l':List ByteArray} (h:Rd b l) (h':Rd b l'):l=l':=by
 have:=h.dec;rw[h'.dec]at this;exact (zjE (Option.some.inj this)).symm
theorem zfe {b:List UInt8} (h:decB b=none):¬∃l,Rd b l:=fun ⟨l,hl⟩=>by
 rw[hl.dec]at h;cases h
theorem rd_some {b:List UInt8} {L:List ByteArray} (h:decB b=some (tx L)) (hn:¬Rd b L):¬∃l,Rd b l:=fun ⟨l,hl⟩=>by
 have:=hl.dec;rw[h]at this;rw[zjE (Option.some.inj this)]at hn;exact hn hl
theorem zlW {b:List UInt8} (h:b.length<2):¬∃l,Rd b l:=by
 refine zfe ?_
 match b,h with
 | [],_=>rfl
 | [_],_=>rfl
theorem zom {b:List UInt8} (h:2<=b.length):decB b=(decN (b[0].toNat*256+b[1].toNat) [] (b.drop 2)).map (·.1):=by
 match b,h with
 | p::q::r,_=>rfl
theorem ziS {last rest:List UInt8} (h:rest.length<2):Fp.step last rest=none:=by
 match rest,h with
 | [],_=>rfl
 | [_],_=>rfl
theorem znA {last b:List UInt8} {off:Nat} (h:off+2<=b.length):Fp.step last (b.drop off) =
    if b[off].toNat<=last.length/\b[off+1].toNat<=b.length-off-2 then some (last.take b[off].toNat++(b.drop (off+2)).take b[off+1].toNat,b.drop (off+2+b[off+1].toNat)) else none:=by
 have e:b.drop off=b[off]::b[off+1]::b.drop (off+2):=by
  rw[List.drop_eq_getElem_cons (by omega),List.drop_eq_getElem_cons (by omega)]
 rw[e];show (if b[off].toNat<=last.length/\b[off+1].toNat<=(b.drop (off+2)).length then _ else _)=_;rw[List.length_drop,List.drop_drop,Nat.sub_sub]
theorem zmX (g:Nat) (l:List ByteArray) (w:World) (h:Dic w g l) :
    Calls prog 42 #[.pointer (some ⟨g,0,none⟩)] w fun e w'=>∃A n c,e=.returned (.slice A n c)/\Seg w' A n (bys (enc (tx l)))/\Below w.heap.size w w'/\(convert 32 9 (.slice A n c)).run prog w'=.ok (.string (str (enc (tx l)))) w':=
 (zd6 g l w h).mono fun e w' ⟨v,he,hown,hb⟩=>by
  obtain ⟨A,c,rfl⟩:=zac hown;exact ⟨A,_,c,he,Seg.of_own hown,hb,zc3 _ _ _ _ _ (Seg.of_own hown)⟩
structure RSt (b:List UInt8) (n k off:Nat) (L:List ByteArray) (last:ByteArray):Prop where
 len:L.length=k
 eq:decN n [] (b.drop 2)=(decN (n-k) last.data.toList (b.drop off)).map fun q=>(tx L++q.1,q.2)
theorem RSt.start (b:List UInt8) (n:Nat):RSt b n 0 2 [] ByteArray.empty:=by
 refine ⟨rfl,?_⟩;show decN n [] (b.drop 2)=(decN n [] (b.drop 2)).map fun q=>(q.1,q.2);cases decN n [] (b.drop 2)<;>rfl
theorem RSt.fail {b:List UInt8} {n k off:Nat} {L:List ByteArray} {last:ByteArray} (h:RSt b n k off L last) (hk:k<n) (hs:Fp.step last.data.toList (b.drop off)=none):decN n [] (b.drop 2)=none:=by
 rw[h.eq,show n-k=(n-k-1)+1 by omega];show ((Fp.step last.data.toList (b.drop off)).bind _).map _=none;rw[hs];rfl
theorem RSt.next {b:List UInt8} {n k off off':Nat} {L:List ByteArray} {last s:ByteArray} (h:RSt b n k off L last) (hk:k<n) (hs:Fp.step last.data.toList (b.drop off)=some (s.data.toList,b.drop off')):RSt b n (k+1) off' (L++[s]) s:=by
 refine ⟨by rw[List.length_append,h.len];rfl,?_⟩;rw[h.eq,show n-k=(n-(k+1))+1 by omega];show ((Fp.step last.data.toList (b.drop off)).bind _).map _=_;rw[hs];show ((decN (n-(k+1)) s.data.toList (b.drop off')).map _).map _=_;cases decN (n-(k+1)) s.data.toList (b.drop off') with
 | none=>rfl
 | some q=>simp[tx]
theorem RSt.done {b:List UInt8} {n off:Nat} {L:List ByteArray} {last:ByteArray} (h:RSt b n n off L last):decN n [] (b.drop 2)=some (tx L,b.drop off):=by
 rw[h.eq,Nat.sub_self];show some (tx L++[],b.drop off)=_;rw[List.append_nil]
theorem zgt (s:ByteArray) (k:Nat):(s.extract 0 k).data.toList=s.data.toList.take k:=by
 rw[ByteArray.data_extract,Array.toList_extract];simp[List.extract_eq_take_drop]
theorem zny (s p:ByteArray):(s.toList == p.toList)=true↔s.data.toList=p.data.toList:=by
 rw[Lib.toList_data,Lib.toList_data];simp
theorem zjV {W:World} {ad:Addr} {b:List UInt8} (h:Seg W (some ad) b.length (bys b)) (o cv:Nat) (ho:o+cv<=b.length) :
    Seg W (some (ad.add o)) cv (bys ((b.drop o).take cv)):=by
 have hl:((b.drop o).take cv).length=cv:=(by rw[List.length_take,List.length_drop];omega);refine ⟨by rw[zbA,hl],fun _=>⟨_,rfl,fun j u hu=>?_⟩⟩;have hj:j<cv:=(by have:=(List.getElem?_eq_some_iff.1 hu).1;rwa[zbA,hl]at this);obtain ⟨ad',e,hc⟩:=h.byte (k:=o+j) (by omega);cases e
 rw[Addr.add_add,hc,<-hu];unfold bys;rw[List.getElem?_map,List.getElem?_take_of_lt hj,List.getElem?_drop,List.getElem?_eq_getElem (by omega)];rfl
end Go.Proofs.YtaeiifngjglchaaGreatDoor.Fd
end
section
namespace Go.Proofs.YtaeiifngjglchaaGreatDoor.Fd
open Go.Proofs.Tryz
open Go.RowKit Go.Lib Fp
open Go.Proofs.YtaeiifngjglchaaGreatDoorW.PrintLast
section
attribute [local go_sem ↓] Go.wp_at_zero Go.wp_at_succ
theorem zcV {W:World} {blk:Nat} {b:List UInt8} (h:∀j (hj:j<b.length),W.cell? ⟨blk,j,none⟩=some (.int .u8 (b[j].toNat:Int))) (o cv:Nat) (ho:o+cv<=b.length) :
    Seg W (some ⟨blk,o,none⟩) cv (bys ((b.drop o).take cv)):=by
 have hl:((b.drop o).take cv).length=cv:=(by rw[List.length_take,List.length_drop];omega);refine ⟨by rw[zbA,hl],fun _=>⟨_,rfl,fun j u hu=>?_⟩⟩;have hj:j<cv:=(by have:=(List.getElem?_eq_some_iff.1 hu).1;rwa[zbA,hl]at this);rw[Addr.add_lit,h (o+j) (by omega),<-hu];unfold bys;rw[List.getElem?_map,List.getElem?_take_of_lt hj,List.getElem?_drop,List.getElem?_eq_getElem (by omega)];rfl
theorem zfC (x:UInt8):x.toNat<=255:=by have:=x.toNat_lt;omega
theorem beq_calls (v1 v2:Value) (s t:ByteArray) (w:World) (h1:(convert 32 9 v1).run prog w=.ok (.string s) w) (h2:(convert 32 9 v2).run prog w=.ok (.string t) w) (r:Bool) (hr:(s.toList == t.toList)=r) :
    Calls prog 36 #[v1,v2] w fun e w'=>e=.returned (.bool r)/\w=w':=by
 go_enter func36,ntmps36
 go_wp2;go_ret;exact ⟨rfl,rfl⟩
def ReadsAs (w:World) (b:List UInt8) (e:Ending) (w':World):Prop:=
 ((∃l g,Rd b l/\e=.returned (.tuple #[.pointer (some ⟨g,0,none⟩),.int .i64 0])/\Dic w' g l)\/((¬∃l,Rd b l)/\e=.returned (.tuple #[.pointer none,.int .i64 2])))/\Below w.heap.size w w'
theorem ReadsAs.no {w w':World} {b:List UInt8} {e:Ending} (h:¬∃l,Rd b l) (hb:Below w.heap.size w w') (he:e=.returned (.tuple #[.pointer none,.int .i64 2])):ReadsAs w b e w':=⟨.inr ⟨h,he⟩,hb⟩
theorem ziY (A:Option Addr) (c:Nat) (b:List UInt8) (w:World) (h2:b.length<2) :
    Calls prog 30 #[.slice A b.length c] w (ReadsAs w b):=by
 have HN:Hid (¬∃l,Rd b l):=zlW h2;go_enter func30,ntmps30
 go_wp2;go_ret2;exact ReadsAs.no HN.out br rfl
theorem zj6 (blk c:Nat) (b:List UInt8) (w:World) (hs:Seg w (some ⟨blk,0,none⟩) b.length (bys b)) (h2:2<=b.length) (hbig:b.length<=80000) (hc:b.length<=c) :
    Calls prog 30 #[.slice (some ⟨blk,0,none⟩) b.length c] w (ReadsAs w b):=by
 have HCC:Hid (∀W,Below w.heap.size w W->∀j (hj:j<b.length),W.cell? ⟨blk,j,none⟩=some (.int .u8 (b[j].toNat:Int))):=fun W hW j hj=>by
  obtain ⟨ad,e,h⟩:=(hs.below hW).byte hj;cases e
  rw[add_zero']at h;exact h
 obtain ⟨b0,hb0⟩:∃x:Nat,b[0].toNat=x:=⟨_,rfl⟩;obtain ⟨b1,hb1⟩:∃x:Nat,b[1].toNat=x:=⟨_,rfl⟩;have l0:b0<=255:=hb0 ▸ zfC _;have l1:b1<=255:=hb1 ▸ zfC _;have k0:=HCC.out w br 0 (by omega);have k1:=HCC.out w br 1 (by omega);rw[hb0]at k0;rw[hb1]at k1;obtain ⟨n,hn⟩:∃n:Nat,b0*256+b1=n:=⟨_,rfl⟩;have hnn:n<=65535:=(by omega);have HDEC:Hid (decB b=(decN n [] (b.drop 2)).map (·.1)):=by
  have:=zom h2;rw[hb0,hb1,hn]at this;exact this
 have e1:IntKind.i64.wrap ((b0:Int)*256)=(b0:Int)*256:=(wI (by omega));have e2:IntKind.i64.wrap ((b0:Int)*256+(b1:Int))=(n:Int):=(wI (by omega));have HS:=Lib.hid hs;clear hs hb0 hb1;go_enter func30,ntmps30
 go_wp2;go_quiet (fail)
 all_goals go_wp2
 all_goals (try (go_quiet (fail);go_wp2))
 all_goals
  clear k0 k1 e1 e2;go_loopw [4,5,6,25] (fun v4 v5 v6 v25 wr=>∃(k off m cc:Nat) (q:Addr) (L:List ByteArray) (last:ByteArray),k<=n/\v25=.int .i64 k/\v5=.string last/\last.size<=510/\v6=.slice (some q) m cc/\m<=cc/\off+m=b.length/\(m=0\/q=⟨blk,off,none⟩)/\Hid (RSt b n k off L last)/\wr.ownsRow w.heap.size 9 1 v4 k (sts L)/\Below w.heap.size w wr) (fun _ _ _ v25 _=>n-(intOf v25).toNat)
  case atStart=>
   refine ⟨0,2,b.length-2,_,_,[],⟨#[]⟩,Nat.zero_le _,rfl,rfl,by decide,rfl,?_,?_,?_,RSt.start b n,World.ownsRow_nil _ _ _ _,?_⟩
   · omega
   · omega
   · first | exact .inr rfl | exact .inl (by omega)
   · exact below_drewN' (below_drewN' br _) _
  case round=>
   clear hc;obtain ⟨k,off,m,cc,q,L,last,hk,rfl,rfl,hl510,rfl,hmc,hom,hq,HR,hown,hB⟩:=hrel;by_cases hlt:k<n
   · by_cases hm2:m<2
     · have HN:Hid (¬∃l,Rd b l):=zfe (by rw[HDEC.out,HR.out.fail hlt (ziS (by rw[List.length_drop];omega))];rfl);have HB:=Lib.hid hB;clear hown hB;go_wp2;go_ret2;exact ReadsAs.no HN.out HB.out rfl
     · obtain rfl:q=⟨blk,off,none⟩:=by
        rcases hq with h | h
        · omega
        · exact h
       have hstep:=znA (last:=last.data.toList) (b:=b) (off:=off) (by omega);have k2:=HCC.out wr hB off (by omega);have k3:=HCC.out wr hB (off+1) (by omega);have la:=zfC b[off];have lc:=zfC b[off+1];have hll:last.data.toList.length=last.size:=Array.length_toList;rw[hll]at hstep;clear hll;generalize b[off].toNat=av at hstep k2 la;generalize b[off+1].toNat=cv at hstep k3 lc;clear hq;by_cases ha:av<=last.size
       · by_cases hcv:cv<=m-2
         · skip
           rw[if_pos ⟨ha,by omega⟩]at hstep;obtain ⟨s2,hs2⟩:∃s2:ByteArray,str ((b.drop (off+2)).take cv)=s2:=⟨_,rfl⟩;obtain ⟨s1,hs1⟩:∃s1,last.extract 0 av=s1:=⟨_,rfl⟩;have hs1d:s1.data.toList=last.data.toList.take av:=(by rw[<-hs1];exact zgt last av);have hs2d:s2.data.toList=(b.drop (off+2)).take cv:=(by rw[<-hs2,zad]);have HR2:Hid (RSt b n (k+1) (off+2+cv) (L++[s1++s2]) (s1++s2)):=HR.out.next hlt (by rw[hstep,ByteArray.data_append,Array.toList_append,hs1d,hs2d]);have hz1:s1.size<=255:=by
            have h:=congrArg List.length hs1d;rw[Array.length_toList,List.length_take]at h;have h':s1.size=min av last.data.toList.length:=h;omega
           have hz2:s2.size<=255:=by
            have h:=congrArg List.length hs2d;rw[Array.length_toList,List.length_take]at h;have h':s2.size=min cv (b.drop (off+2)).length:=h;omega
           have hcat:(9223372036854775807<s1.size+s2.size)=False:=eq_false (by omega);have hcv1:∀nq,(convert 32 9 (.slice (some ⟨blk,off+2,none⟩) cv (cc-2))).run prog (wr.drewN nq)=.ok (.string s2) (wr.drewN nq):=fun nq=>by
            rw[<-hs2];exact zc3 _ _ _ _ _ (zcV (HCC.out _ (below_drewN' hB nq)) (off+2) cv (by omega))
           have hcv0:cv=0->∀nq,(convert 32 9 (.slice (some ⟨blk,off,none⟩) 0 0)).run prog (wr.drewN nq)=.ok (.string s2) (wr.drewN nq):=fun h0 nq=>by
            rw[<-hs2,h0];have:=zc3 _ _ _ 0 _ (zcV (HCC.out _ (below_drewN' hB nq)) off 0 (by omega));simpa using this
           have h9:IntKind.i64.wrap (2+(cv:Int))=2+(cv:Int):=(wI (by omega));have h9t:(2+(cv:Int)).toNat=2+cv:=(by omega);have HO0:=Lib.hid hown;have HB0:=Lib.hid hB;clear hstep hs1d hs2d hs2 hown hB h9;obtain ⟨i0,hi,hz0,hz1',hz2'⟩:=info_parts info9;have hcases:(cc=2/\cv=0/\m=2)\/(¬cc=2/\cc=2+cv)\/(¬cc=2/\¬cc=2+cv):=(by omega);rcases hcases with ⟨rfl,rfl,rfl⟩ | ⟨hc2,rfl⟩ | ⟨hc2,hc3⟩
           · have hcv:=hcv0 rfl;clear hcv0 hcv1;go_wp2;go_quiet (fail)
             rename_i nq;have HOWN:Hid ((wr.drewN nq).ownsRow w.heap.size 9 1 u4 k (sts L)):=HO0.out.drewFd nq;have HBW:Hid (Below w.heap.size w (wr.drewN nq)):=below_drewN' HB0.out nq;have hWs:w.heap.size<=(wr.drewN nq).heap.size:=HBW.out.size;clear hcv;generalize wr.drewN nq=W at HOWN HBW hWs ⊢;go_wp2_with fail
             refine zdv (n:=9) (S:=fun w'=>True) (ds:=[]) #[false,false,false,false,false,false,false,false,false] (by kernel_rfl) rfl rfl trivial (fun _=>?_);refine pU 0 ?_;refine pU 1 ?_;refine pU 4 ?_;refine pU 5 ?_;refine pU 6 ?_;refine oN 2 (fun K hK=>?_);refine vA (.slice (some ⟨W.heap.size,0,none⟩) 1 1) (W.drew.alloc (.cells #[.string (s1++s2)] 9)) ?_;refine oU hK trivial (fun _=>?_);clear hK K;refine oN 3 (fun K hK=>?_);refine step_append_lies _ (by rfl) _ _ _ (by rfl) w.heap.size 9 i0 _ 1 16 underlying38 hi hz0 hz1' hz2' rfl (by omega) _ k (sts L) (by rfl) ((HOWN.out.drew).alloc _) ⟨W.heap.size,0,none⟩ 1 1 [.string (s1++s2)] (by rfl) (by rfl) (World.news_of_block (cs:=#[.string (s1++s2)]) (t:=9) (fr:=(0,0)) (heap_alloc_new W.drew _)) (by simp[Value.oneCell']) (by omega) (by unfold maxLen;omega) (by omega) (by simp;omega) (W.heap.size+1) (by simp) ?_;intro gg cap w1 hown1 hgrow _ _;refine oU hK trivial (fun _=>?_);clear hK K;refine pU 7 ?_;refine pU 8 ?_;refine done_ (by kernel_rfl) ?_;have hB1:Below w.heap.size w w1:=(HBW.out.drew.alloc hWs _).grown hgrow (by simp;omega) (fun j hj=>(HOWN.out.lt j hj).1);have hown2:w1.ownsRow w.heap.size 9 1 (.slice (some ⟨gg,0,none⟩) (k+1) cap) (k+1) (sts (L++[s1++s2])):=by
              have e:sts (L++[s1++s2])=sts L++[.string (s1++s2)]:=(by unfold sts;rw[List.map_append];rfl);rw[e];exact hown1
             have HOWN2:=Lib.hid hown2;have HB1:=Lib.hid hB1;clear hown1 hgrow hown2 hB1;go_wp2;go_roundw
             case rel=>exact ⟨k+1,off+2+0,2-(2+0),2-(2+0),_,L++[s1++s2],s1++s2,by omega,by go_num,rfl,by rw[ByteArray.size_append];omega,rfl,by omega,by omega,.inl (by omega),HR2,HOWN2.out,HB1.out⟩
             case measure=>simp[intOf];omega
           · have hcv:=hcv1;rw[show 2+cv-2=cv by omega]at hcv;have hc4:¬cv=0:=(by omega);have hbd:(0:Int)<=2+(cv:Int):=(by omega);have hbd2:2+(cv:Int)<=(m:Int):=(by omega);clear hcv0 hcv1;go_wp2;go_quiet (fail)
             rename_i nq;have HOWN:Hid ((wr.drewN nq).ownsRow w.heap.size 9 1 u4 k (sts L)):=HO0.out.drewFd nq;have HBW:Hid (Below w.heap.size w (wr.drewN nq)):=below_drewN' HB0.out nq;have hWs:w.heap.size<=(wr.drewN nq).heap.size:=HBW.out.size;clear hcv;generalize wr.drewN nq=W at HOWN HBW hWs ⊢;go_wp2_with fail
             refine zdv (n:=9) (S:=fun w'=>True) (ds:=[]) #[false,false,false,false,false,false,false,false,false] (by kernel_rfl) rfl rfl trivial (fun _=>?_);refine pU 0 ?_;refine pU 1 ?_;refine pU 4 ?_;refine pU 5 ?_;refine pU 6 ?_;refine oN 2 (fun K hK=>?_);refine vA (.slice (some ⟨W.heap.size,0,none⟩) 1 1) (W.drew.alloc (.cells #[.string (s1++s2)] 9)) ?_;refine oU hK trivial (fun _=>?_);clear hK K;refine oN 3 (fun K hK=>?_);refine step_append_lies _ (by rfl) _ _ _ (by rfl) w.heap.size 9 i0 _ 1 16 underlying38 hi hz0 hz1' hz2' rfl (by omega) _ k (sts L) (by rfl) ((HOWN.out.drew).alloc _) ⟨W.heap.size,0,none⟩ 1 1 [.string (s1++s2)] (by rfl) (by rfl) (World.news_of_block (cs:=#[.string (s1++s2)]) (t:=9) (fr:=(0,0)) (heap_alloc_new W.drew _)) (by simp[Value.oneCell']) (by omega) (by unfold maxLen;omega) (by omega) (by simp;omega) (W.heap.size+1) (by simp) ?_;intro gg cap w1 hown1 hgrow _ _;refine oU hK trivial (fun _=>?_);clear hK K;refine pU 7 ?_;refine pU 8 ?_;refine done_ (by kernel_rfl) ?_;have hB1:Below w.heap.size w w1:=(HBW.out.drew.alloc hWs _).grown hgrow (by simp;omega) (fun j hj=>(HOWN.out.lt j hj).1);have hown2:w1.ownsRow w.heap.size 9 1 (.slice (some ⟨gg,0,none⟩) (k+1) cap) (k+1) (sts (L++[s1++s2])):=by
              have e:sts (L++[s1++s2])=sts L++[.string (s1++s2)]:=(by unfold sts;rw[List.map_append];rfl);rw[e];exact hown1
             have HOWN2:=Lib.hid hown2;have HB1:=Lib.hid hB1;clear hown1 hgrow hown2 hB1;go_wp2;go_roundw
             case rel=>exact ⟨k+1,off+2+cv,0,0,_,L++[s1++s2],s1++s2,by omega,by go_num,rfl,by rw[ByteArray.size_append];omega,rfl,by omega,by omega,.inl rfl,HR2,HOWN2.out,HB1.out⟩
             case measure=>simp[intOf];omega
           · have hcv:=hcv1;have hbd:(0:Int)<=2+(cv:Int):=(by omega);have hbd2:2+(cv:Int)<=(m:Int):=(by omega);clear hcv0 hcv1;go_wp2;go_quiet (fail)
             rename_i nq;have HOWN:Hid ((wr.drewN nq).ownsRow w.heap.size 9 1 u4 k (sts L)):=HO0.out.drewFd nq;have HBW:Hid (Below w.heap.size w (wr.drewN nq)):=below_drewN' HB0.out nq;have hWs:w.heap.size<=(wr.drewN nq).heap.size:=HBW.out.size;clear hcv;generalize wr.drewN nq=W at HOWN HBW hWs ⊢;go_wp2_with fail
             refine zdv (n:=9) (S:=fun w'=>True) (ds:=[]) #[false,false,false,false,false,false,false,false,false] (by kernel_rfl) rfl rfl trivial (fun _=>?_);refine pU 0 ?_;refine pU 1 ?_;refine pU 4 ?_;refine pU 5 ?_;refine pU 6 ?_;refine oN 2 (fun K hK=>?_);refine vA (.slice (some ⟨W.heap.size,0,none⟩) 1 1) (W.drew.alloc (.cells #[.string (s1++s2)] 9)) ?_;refine oU hK trivial (fun _=>?_);clear hK K;refine oN 3 (fun K hK=>?_);refine step_append_lies _ (by rfl) _ _ _ (by rfl) w.heap.size 9 i0 _ 1 16 underlying38 hi hz0 hz1' hz2' rfl (by omega) _ k (sts L) (by rfl) ((HOWN.out.drew).alloc _) ⟨W.heap.size,0,none⟩ 1 1 [.string (s1++s2)] (by rfl) (by rfl) (World.news_of_block (cs:=#[.string (s1++s2)]) (t:=9) (fr:=(0,0)) (heap_alloc_new W.drew _)) (by simp[Value.oneCell']) (by omega) (by unfold maxLen;omega) (by omega) (by simp;omega) (W.heap.size+1) (by simp) ?_;intro gg cap w1 hown1 hgrow _ _;refine oU hK trivial (fun _=>?_);clear hK K;refine pU 7 ?_;refine pU 8 ?_;refine done_ (by kernel_rfl) ?_;have hB1:Below w.heap.size w w1:=(HBW.out.drew.alloc hWs _).grown hgrow (by simp;omega) (fun j hj=>(HOWN.out.lt j hj).1);have hown2:w1.ownsRow w.heap.size 9 1 (.slice (some ⟨gg,0,none⟩) (k+1) cap) (k+1) (sts (L++[s1++s2])):=by
              have e:sts (L++[s1++s2])=sts L++[.string (s1++s2)]:=(by unfold sts;rw[List.map_append];rfl);rw[e];exact hown1
             have HOWN2:=Lib.hid hown2;have HB1:=Lib.hid hB1;clear hown1 hgrow hown2 hB1;go_wp2;go_roundw
             case rel=>exact ⟨k+1,off+2+cv,m-(2+cv),cc-(2+cv),_,L++[s1++s2],s1++s2,by omega,by go_num,rfl,by rw[ByteArray.size_append];omega,rfl,by omega,by omega,.inr (by rw[Nat.add_assoc]),HR2,HOWN2.out,HB1.out⟩
             case measure=>simp[intOf];omega
         · rw[if_neg (by omega)]at hstep;have HN:Hid (¬∃l,Rd b l):=zfe (by rw[HDEC.out,HR.out.fail hlt hstep];rfl);have HB:=Lib.hid hB;clear hown hB hstep;go_wp2;go_ret2;exact ReadsAs.no HN.out HB.out rfl
       · rw[if_neg (by omega)]at hstep;have HN:Hid (¬∃l,Rd b l):=zfe (by rw[HDEC.out,HR.out.fail hlt hstep];rfl);have HB:=Lib.hid hB;clear hown hB hstep;go_wp2;go_ret2;exact ReadsAs.no HN.out HB.out rfl
   · obtain rfl:k=n:=(by omega);obtain ⟨A4,c4,rfl⟩:=zac hown;have hLn:=HR.out.len;have HD2:Hid (decB b=some (tx L)):=by
      show decB b=some (tx L);rw[HDEC.out,HR.out.done];rfl
     have hseg4:Seg wr A4 L.length (sts L):=(by rw[hLn];exact Seg.of_own hown);clear hown;by_cases hm:May L
     · have hnew:=zkg A4 c4 L wr hseg4 hm;rw[hLn]at hnew;have HN:=Lib.hid hnew;have HM:=Lib.hid hm;have HB:=Lib.hid hB;clear hnew hm hseg4 hLn hB;go_wp2_with fail
       refine HN.out.mono ?_;rintro e w1 ⟨g,rfl,_,hd1,hb1⟩;have HB1:=Lib.hid (thn HB.out hb1);clear hb1;go_wp2_with fail
       refine (zmX g L _ hd1).mono ?_;rintro e w2 ⟨A5,n5,c5,rfl,_,hb2,hv5⟩;have hd2:=hd1.below hb2;have HB2:=Lib.hid (thn HB1.out hb2);have HD3:=Lib.hid hd2;have HV5:=Lib.hid hv5;clear hb2 hd1 hd2 hv5;have HVb:Hid (∀c',(convert 32 9 (.slice (some ⟨blk,0,none⟩) b.length c')).run prog w2=.ok (.string (str b)) w2):=fun c'=>zc3 w2 (some ⟨blk,0,none⟩) b.length c' b (HS.out.below HB2.out);by_cases hE:enc (tx L)=b
       · have HRD:Hid (Rd b L):=⟨HM.out,hE⟩;have HC:=Lib.hid (fun c'=>beq_calls _ _ _ _ w2 HV5.out (HVb.out c') true (by rw[hE];exact beq_self_eq_true _));clear hE;go_wp2_with fail
         refine (HC.out _).mono ?_;rintro e w' ⟨rfl,rfl⟩;go_wp2;go_ret2;exact ⟨.inl ⟨L,g,HRD.out,rfl,HD3.out⟩,HB2.out⟩
       · have HNO:Hid (¬∃l,Rd b l):=rd_some HD2.out (fun h=>hE h.2)
         have HC:=Lib.hid (fun c'=>beq_calls _ _ _ _ w2 HV5.out (HVb.out c') false (by
          rw[Bool.eq_false_iff];intro h;rw[zny,zad,zad]at h;exact hE h))
         clear hE;go_wp2_with fail
         refine (HC.out _).mono ?_;rintro e w' ⟨rfl,rfl⟩;go_wp2;go_ret2;exact ReadsAs.no HNO.out HB2.out rfl
     · have hnew:=new_no A4 c4 L wr hseg4 hm;rw[hLn]at hnew;have HN:=Lib.hid hnew;have HNO:Hid (¬∃l,Rd b l):=rd_some HD2.out (fun h=>hm h.1);have HB:=Lib.hid hB;clear hnew hm hseg4 hLn hB;go_wp2_with fail
       refine HN.out.mono ?_;rintro e w' ⟨rfl,rfl⟩;go_wp2;go_ret2;exact ReadsAs.no HNO.out HB.out rfl
end
end Go.Proofs.YtaeiifngjglchaaGreatDoor.Fd
end
