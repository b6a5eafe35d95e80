/- Proved on the way: The lines of a text, one step at a time:; A triple as a map's key; A map of triples that have come: what it; Package lines: Parse; Package store: Load; the law's known(). Each theorem states its own conditions. -/
import Derived.DeepKeys5
import Derived.Test.YtjcpjopbgngihaaGreatDoorM28
set_option maxHeartbeats 16000000
set_option maxRecDepth 1000000
set_option linter.unusedSimpArgs false
section
namespace Go.Proofs.YtjcpjopbgngihaaGreatDoor.Tv
open Tryz
open Go.Lib
theorem zcP (nl:Bool):∀(f f':Nat) (s:Bs) (acc:List Tri) (n:Nat),s.length<f->s.length<f'->parGo nl f s acc n=parGo nl f' s acc n
 | 0,_,_,_,_,h,_=>absurd h (by omega)
 | _,0,_,_,_,_,h=>absurd h (by omega)
 | f+1,f'+1,s,acc,n,h1,h2=>by
  unfold parGo;by_cases hs:s=[]
  · rw[if_pos hs,if_pos hs]
  · have hl:=zhQ s hs;rw[if_neg hs,if_neg hs];rw[zcP nl f f' (lnB s) acc (n+1) (by omega) (by omega)];have:∀t:Tri,parGo nl f (lnB s) (acc++[t]) (n+1)=parGo nl f' (lnB s) (acc++[t]) (n+1):=fun t=>zcP nl f f' (lnB s) (acc++[t]) (n+1) (by omega) (by omega);simp only[this]
def parX (s:Bs) (acc:List Tri) (n:Nat):Except (Nat × Nat) (List Tri × Nat):=parGo false (s.length+1) s acc n
theorem zmB (acc:List Tri) (n:Nat):parX [] acc n=.ok (acc,n):=rfl
theorem zcO (s:Bs) (acc:List Tri) (n:Nat) (h:s≠[]):parX s acc n=if 200<n+1 then .error (n+1,3)
    else match oneV false (ln s) with
     | none=>.error (n+1,2)
     | some none=>parX (lnB s) acc (n+1)
     | some (some t)=>
      if t∈acc then parX (lnB s) acc (n+1)
      else if 100<acc.length+1 then .error (n+1,3)
      else parX (lnB s) (acc++[t]) (n+1):=by
 have hl:=zhQ s h;have e:∀acc n,parX (lnB s) acc n=parGo false s.length (lnB s) acc n:=fun acc n=>zcP false _ _ _ _ _ (by omega) (by omega);simp only[e]
 conv=>lhs;unfold parX parGo
 rw[if_neg h];rfl
theorem zkF {s:Bs} {acc:List Tri} {n:Nat} (h:s≠[]) (h2:200<n+1):parX s acc n=.error (n+1,3):=by rw[zcO s acc n h,if_pos h2]
theorem ziF {s:Bs} {acc:List Tri} {n:Nat} (h:s≠[]) (h2:¬200<n+1) (h3:oneV false (ln s)=none):parX s acc n=.error (n+1,2):=by rw[zcO s acc n h,if_neg h2,h3]
theorem zkD {s:Bs} {acc:List Tri} {n:Nat} (h:s≠[]) (h2:¬200<n+1) (h3:oneV false (ln s)=some none):parX s acc n=parX (lnB s) acc (n+1):=by rw[zcO s acc n h,if_neg h2,h3]
theorem zkE {s:Bs} {acc:List Tri} {n:Nat} {t:Tri} (h:s≠[]) (h2:¬200<n+1) (h3:oneV false (ln s)=some (some t)) (h4:t∈acc):parX s acc n=parX (lnB s) acc (n+1):=by
 rw[zcO s acc n h,if_neg h2,h3];exact if_pos h4
theorem zgv {s:Bs} {acc:List Tri} {n:Nat} {t:Tri} (h:s≠[]) (h2:¬200<n+1) (h3:oneV false (ln s)=some (some t)) (h4:t∉acc) (h5:100<acc.length+1):parX s acc n=.error (n+1,3):=by
 rw[zcO s acc n h,if_neg h2,h3];show (if t∈acc then _ else _)=_;rw[if_neg h4,if_pos h5]
theorem ziE {s:Bs} {acc:List Tri} {n:Nat} {t:Tri} (h:s≠[]) (h2:¬200<n+1) (h3:oneV false (ln s)=some (some t)) (h4:t∉acc) (h5:¬100<acc.length+1):parX s acc n=parX (lnB s) (acc++[t]) (n+1):=by
 rw[zcO s acc n h,if_neg h2,h3];show (if t∈acc then _ else _)=_;rw[if_neg h4,if_neg h5]
theorem zkG {s:Bs} (h:20000<s.length):parV false s=.error (0,4):=by unfold parV;rw[if_pos h]
theorem zol {s:Bs} (h:¬20000<s.length):parV false s=parX s [] 0:=by unfold parV;rw[if_neg h];rfl
theorem ze1:parV false knownS=.ok ([knownT],1):=by
 have h:=zla;cases hp:parV false knownS with
 | error e=>rw[hp]at h;cases h
 | ok p=>
  obtain ⟨l,m⟩:=p;rw[hp]at h;have h':decide (l=[knownT]/\m=1)=true:=h;obtain ⟨rfl,rfl⟩:=oT h';rfl
end Go.Proofs.YtjcpjopbgngihaaGreatDoor.Tv
end
section
namespace Go.Proofs.YtjcpjopbgngihaaGreatDoor
open Tryz
open Go.RowKit Go.Lib Tv Go.Maps
theorem zdw:Keyed prog 96:=Keyed.of_law (deep_law_gate (P:=prog) (by kernel_rfl) (oT (by kernel_rfl)) (oT (by kernel_rfl)) (by kernel_rfl) (by kernel_rfl))
theorem zmP (D:Nat) (k:Int) (h:(Lit.int .i64 k).wf=true):prog.keyLits (D+1) 3 [.int .i64 k]=some [.int .i64 k]:=by
 unfold Program.keyLits;rw[underlying3];exact if_pos ⟨rfl,h⟩
theorem ziO (D:Nat) (x:Bs) (h:x.length<=1000000):prog.keyLits (D+1) 9 [.string (str x)]=some [.string x]:=by
 unfold Program.keyLits;rw[underlying9];show (if (str x).size<=maxLen then some [Lit.string (str x).data.toList] else none)=_;rw[if_pos (by rw[zab];unfold maxLen;omega),zae]
theorem zdZ (D:Nat) (t:Tm) (h:Sml t) (hk:(Lit.int .i64 t.k).wf=true):prog.keyLits (D+2) 82 (encT t)=some [.int .i64 t.k,.string t.x,.string t.e]:=by
 obtain ⟨k,x,e⟩:=t;have e1:=zmP D k hk;have e2:=ziO D x h.1;have e3:=ziO D e h.2;have c1:prog.cellsOf 3=1:=(by kernel_rfl);have c2:prog.cellsOf 9=1:=(by kernel_rfl);have c3:prog.cellsOf 82=3:=(by kernel_rfl);unfold Program.keyLits;rw[underlying82];simp[encT,c1,c2,c3,e1,e2,e3]
theorem zn4 (t:Tri) (h:SmlT t) (h1:(Lit.int .i64 t.s.k).wf=true) (h2:(Lit.int .i64 t.p.k).wf=true) (h3:(Lit.int .i64 t.o.k).wf=true):∃l,keyOf prog 96 (.agg (encTri t).toArray)=some l:=by
 obtain ⟨s,p,o⟩:=t;obtain ⟨D,hD⟩:∃D,prog.types.size+1=D+3:=⟨prog.types.size-2,by have:2<=prog.types.size:=oT (by kernel_rfl);omega⟩;have e1:=zdZ D s h.1 h1;have e2:=zdZ D p h.2.1 h2;have e3:=zdZ D o h.2.2 h3;have c3:prog.cellsOf 82=3:=(by kernel_rfl);have c9:prog.cellsOf 96=9:=(by kernel_rfl);have hk:prog.keyType 96=true:=(by kernel_rfl);have hf:(Value.agg (encTri ⟨s,p,o⟩).toArray).formed prog 96=true:=by
  unfold Value.formed;rw[underlying96,c9];rfl
 have hl:prog.keyLits (D+3) 96 (encTri ⟨s,p,o⟩)=some ([.int .i64 s.k,.string s.x,.string s.e]++[.int .i64 p.k,.string p.x,.string p.e]++[.int .i64 o.k,.string o.x,.string o.e]):=by
  unfold encT at e1 e2 e3;unfold Program.keyLits;rw[underlying96];simp[encTri,encT,c3,c9,e1,e2,e3]
 unfold keyOf;rw[underlying96];simp only[hk,hf,hD,Bool.and_self,if_true];rw[show (Value.agg (encTri ⟨s,p,o⟩).toArray).cells.toList=encTri ⟨s,p,o⟩ from rfl,hl];exact ⟨_,rfl⟩
def KeyT (t:Tri):Prop:=∃l,keyOf prog 96 (.agg (encTri t).toArray)=some l
def MapIs (w:World) (b:Nat) (L:List Tri):Prop:=∃es clock,w.heap[b]?=some (.map es clock)/\(es.toList.map fun e=>(e.key,e.val))=L.map fun t=>(Value.agg (encTri t).toArray,Value.bool true)
theorem zjR {s t:Tri} (h:encTri s=encTri t):s=t:=by
 obtain ⟨⟨a,b,c⟩,⟨d,e,f⟩,⟨g,i,j⟩⟩:=s;obtain ⟨⟨a',b',c'⟩,⟨d',e',f'⟩,⟨g',i',j'⟩⟩:=t;have hs:∀{x y:Bs},str x=str y->x=y:=fun {x y} h=>by
  have:=congrArg (fun z:ByteArray=>z.data.toList) h;simpa [zae] using this
 unfold encTri encT at h;simp only[List.cons_append,List.nil_append,List.cons.injEq,Value.int.injEq,Value.string.injEq,true_and,and_true]at h;obtain ⟨h1,h2,h3,h4,h5,h6,h7,h8,h9⟩:=h;subst h1;subst h4;subst h7
 rw[hs h2,hs h3,hs h5,hs h6,hs h8,hs h9]
theorem ziv {w:World} {es:Array MapEntry} {L:List Tri} (he:(es.toList.map fun e=>(e.key,e.val))=L.map fun t=>(Value.agg (encTri t).toArray,Value.bool true)) (hL:∀t∈L,KeyT t) (t:Tri) (ht:KeyT t) :
    (t∈L/\∃j,(Instr.findKey 96 (.agg (encTri t).toArray) es.toList).run prog w=.ok (some (j,.bool true)) w)\/(t∉L/\(Instr.findKey 96 (.agg (encTri t).toArray) es.toList).run prog w=.ok none w):=by
 obtain ⟨lx,hx⟩:=ht;have hmem:∀e∈es.toList,∃s∈L,e.key=.agg (encTri s).toArray/\e.val=.bool true:=by
  intro e h;have:(e.key,e.val)∈L.map fun t=>(Value.agg (encTri t).toArray,Value.bool true):=(by rw[<-he];exact List.mem_map.2 ⟨e,h,rfl⟩);obtain ⟨s,hs,h2⟩:=List.mem_map.1 this;have h3:=Prod.mk.inj h2;exact ⟨s,hs,h3.1.symm,h3.2.symm⟩
 have hinj:∀{s:Tri},Value.agg (encTri s).toArray=.agg (encTri t).toArray->s=t:=fun {s} h=>by
  have h':=Value.agg.inj h;exact zjR (List.toArray_inj h')
 rcases zdw.find w hx es.toList (fun e h=>by obtain ⟨s,hs,h2,_⟩:=hmem e h;rw[h2];exact hL s hs) with ⟨h1,h2⟩ | ⟨j,e,h1,h2,h3⟩
 · refine .inr ⟨fun hin=>?_,h1⟩;have:(Value.agg (encTri t).toArray,Value.bool true)∈es.toList.map fun e=>(e.key,e.val):=(by rw[he];exact List.mem_map.2 ⟨t,hin,rfl⟩);obtain ⟨e,hein,hee⟩:=List.mem_map.1 this;exact h2 e hein (Prod.mk.inj hee).1
 · obtain ⟨s,hs,h4,h5⟩:=hmem e (List.mem_of_getElem? h2);rw[h5]at h1;obtain rfl:=hinj (h4.symm.trans h3);exact .inl ⟨hs,j,h1⟩
theorem ziu {w:World} {b:Nat} {L:List Tri} (h:MapIs w b L) (hL:∀t∈L,KeyT t) (t:Tri) (ht:KeyT t) :
    (Instr.lookup 97 (.map (some b)) (.agg (encTri t).toArray) false).run prog w=.ok (.bool (decide (t∈L))) w:=by
 obtain ⟨es,clock,hb,he⟩:=h;obtain ⟨lx,hx⟩:=id ht;have hc:=zdw.check w es.isEmpty hx;have hz:(zeroValue 4).run prog w=.ok (.bool false) w:=Tryz.zeroValue4 w;have hg:(getObj b).run prog w=.ok (.map es clock) w:=(by simp[getObj,Sem.run,hb]);rcases ziv (w:=w) he hL t ht with ⟨h1,j,h2⟩ | ⟨h1,h2⟩
 · rw[dT h1];simp[Instr.lookup,go_sem,hg,hc,h2]
 · rw[dF h1];simp[Instr.lookup,go_sem,hg,hc,h2,hz]
theorem zkn {w:World} {b:Nat} {L:List Tri} (h:MapIs w b L) (hL:∀t∈L,KeyT t) (t:Tri) (ht:KeyT t) (hn:t∉L) :
    ∃o,(Instr.mapUpdate 97 (.map (some b)) (.agg (encTri t).toArray) (.bool true)).run prog w=.ok () (w.putObj b o)/\MapIs (w.putObj b o) b (L++[t]):=by
 obtain ⟨es,clock,hb,he⟩:=h;obtain ⟨lx,hx⟩:=id ht;have hc:=zdw.check w false hx;have hg:(getObj b).run prog w=.ok (.map es clock) w:=(by simp[getObj,Sem.run,hb]);have hlt:b<w.heap.size:=(Array.getElem?_eq_some_iff.1 hb).1;have hp:∀o,(setObj b o).run prog w=.ok () (w.putObj b o):=fun o=>by
  have hbb:=(Array.getElem?_eq_some_iff.1 hb).2;simp[setObj,Sem.run,World.putObj,hlt,hbb]
 rcases ziv (w:=w) he hL t ht with ⟨h1,_⟩ | ⟨_,h2⟩
 · exact absurd h1 hn
 · refine ⟨.map (es.push { key:=.agg (encTri t).toArray,val:=.bool true,born:=clock }) (clock+1),?_,_,_,World.putObj_heap_same hlt,?_⟩
   · simp[Instr.mapUpdate,go_sem,hg,hc,h2,hp]
   · simp[he]
end Go.Proofs.YtjcpjopbgngihaaGreatDoor
end
section
namespace Go.Proofs.YtjcpjopbgngihaaGreatDoor
open Tryz
open Go.RowKit Go.Lib Tv Go.Sort
theorem VTri.key (t:VTri):KeyT t.1:=by
 have key:∀x:VTm,(Lit.int .i64 x.1.k).wf=true:=fun x=>by
  have h:=(zbF x.1 x.2).kind;rcases h with h | h | h | h | h<;>rw[h]<;>rfl
 exact zn4 t.1 t.sml (key ⟨_,t.s⟩) (key ⟨_,t.p⟩) (key ⟨_,t.o⟩)
theorem vkeys {A:List VTri}:∀t∈A.map Subtype.val,KeyT t:=fun t ht=>by
 obtain ⟨x,_,rfl⟩:=List.mem_map.1 ht;exact VTri.key x
theorem lnA_le (s:Bs):(lnA s).length<=s.length:=(List.takeWhile_sublist _).length_le
theorem cr_le (s:Bs):(cr s).length<=s.length:=by
 unfold cr;split
 · rw[List.length_dropLast];omega
 · exact nL
theorem zjU (s:Bs) (w:World) (ht:Lay w) (hl:s.length<=20000) :
    Calls prog 45 #[.string (str s),.string ⟨#[10]⟩] w fun e w'=>e=.returned (.tuple #[.string (str (lnA s)),.string (str (lnB s)),.bool (lnE s)])/\∃n,w'=w.drewN n:=by
 obtain ⟨m,hm⟩:=ht.most;have h:=Tryz.strings_Cut (str s) ⟨#[10]⟩ m w (by rw[zab];omega) hm;rw[zae]at h;have e:(⟨#[10]⟩:ByteArray).data.toList=[10]:=rfl;rw[e,znQ]at h;exact h
theorem zhj (s:Bs) (w:World) (hl:s.length<=20000) :
    Calls prog 46 #[.string (str s),.string ⟨#[13]⟩] w fun e w'=>e=.returned (.string (str (cr s)))/\w'=w:=by
 have h:=Tryz.strings_TrimSuffix (str s) ⟨#[13]⟩ w (by rw[zab];omega);rw[zae]at h;have e:(⟨#[13]⟩:ByteArray).data.toList=[13]:=rfl;rw[e,zn3]at h;exact h
def ParAns (w:World) (s:Bs) (e:Ending) (w':World):Prop:=
 ((∃(A r:List VTri) (n:Nat) (v:Value),parV false s=.ok (A.map Subtype.val,n)/\A.length<=100/\SortOf A r/\e=.returned (.tuple #[v,.int .i64 n,.int .i64 0])/\RowV w' w.heap.size v r)\/(∃n k:Nat,parV false s=.error (n,k)/\e=.returned (.tuple #[.slice none 0 0,.int .i64 n,.int .i64 k])))/\Below w.heap.size w w'
theorem MapIs.below {w w':World} {b:Nat} {L:List Tri} (h:MapIs w b L) (hb:Below w.heap.size w w'):MapIs w' b L:=by
 obtain ⟨es,c,h1,h2⟩:=h;exact ⟨es,c,(hb.block b (Array.getElem?_eq_some_iff.1 h1).1).trans h1,h2⟩
theorem MapIs.lt {w:World} {b:Nat} {L:List Tri} (h:MapIs w b L):b<w.heap.size:=by
 obtain ⟨es,c,h1,h2⟩:=h;exact (Array.getElem?_eq_some_iff.1 h1).1
theorem MapIs.grown {w w':World} {b:Nat} {L:List Tri} {B:Nat} {e:TypeId} {sz n:Nat} {v:Value} {xs:List Value} (h:MapIs w b L) (ho:w.ownsRow B e sz v n xs) (hg:w.grownBy w' v.ownBlock):MapIs w' b L:=by
 obtain ⟨es,c,h1,h2⟩:=h;refine ⟨es,c,(hg.block b (Array.getElem?_eq_some_iff.1 h1).1 ?_).trans h1,h2⟩;rcases ho.2 with ⟨rfl,_⟩ | ⟨g,cap,cur,rfl,_,hh,_⟩
 · simp[Value.ownBlock]
 · intro hk;simp[Value.ownBlock]at hk;subst hk;rw[h1]at hh;cases hh
theorem zhH (s:Bs) (w:World) (h4:4<=w.heap.size) (ht:Lay w):Calls prog 13 #[.string (str s)] w (ParAns w s):=by
 have hsz:(str s).size=s.length:=zab s;by_cases hl:20000<s.length
 · have HP:=hid (zkG hl);have hz:(20000:Int)<((str s).size:Int):=(by rw[hsz];omega);generalize str s=S at hz ⊢;clear hsz;go_enter func13,ntmps13
   go_wp2;go_step3
   go_wp2
   (try rw[Exit.noGoto_ret])
   go_ret3;exact ⟨.inr ⟨0,4,HP.out,rfl⟩,br⟩
 · have HP:=hid (zol hl);have hz:¬(20000:Int)<((str s).size:Int):=(by rw[hsz];omega);have HLY:Hid (∀W,Below w.heap.size w W->Lay W):=fun W hW=>ht.below hW;clear hsz ht;have hmm:=@run_makeMap prog;obtain ⟨S0,hS0⟩:∃S0,str s=S0:=⟨_,rfl⟩;have HS0:=hid hS0;rw[hS0]at hz ⊢;clear hS0;go_enter func13,ntmps13
   go_wp2;go_step3
   go_wp2;go_step3
   go_wp2;clear hmm hz;rw[<-HS0.out];go_loopw [0,6,7] (fun v0 v6 v7 wr=>∃(t:Bs) (A:List VTri) (n:Nat),v0=.string (str t)/\v7=.int .i64 n/\t.length<=20000/\A.length<=100/\n<=200/\Hid (parV false s=parX t (A.map Subtype.val) n)/\RowV wr w.heap.size v6 A/\Hid (MapIs wr w.heap.size (A.map Subtype.val))/\Below w.heap.size w wr) (fun v0 _ _ _=>match v0 with | .string x=>x.size | _=>0)
   case atStart=>exact ⟨s,[],0,rfl,rfl,by omega,by simp,by omega,HP,World.ownsRow_nil _ _ _ _,hid ⟨#[],0,by exact heap_alloc_new w _,rfl⟩,br.alloc nL _⟩
   case round=>
    obtain ⟨t,A,n,rfl,rfl,htl,hAl,hn2,HPX,hrow,HMAP,hB⟩:=hrel;have HROW:=hid hrow;have HB:=hid hB;have hws:=hB.size;have htz:=zd6 t;clear hrow hB;by_cases hte:t=[]
    · subst hte;have HOK:Hid (parV false s=.ok (A.map Subtype.val,n)):=by
       show _=_;rw[HPX.out,zmB]
      have HSO:=hid (zeQ A _ w.heap.size wr HROW.out (by omega));rw[dT rfl]at htz;clear HPX HROW HMAP;go_wp2_with fail
      refine HSO.out.mono ?_;rintro e w2 ⟨v',r,rfl,hr2,hso,hb2⟩;have HR2:=hid (zaj hr2 hws);have HS2:=hid hso;have HB2:=hid (HB.out.trans (hb2.mono hws));clear hr2 hso hb2 HSO;go_wp2
      (try rw[Exit.noGoto_ret])
      go_ret3;exact ⟨.inl ⟨A,r,n,v',HOK.out,hAl,HS2.out,rfl,HR2.out⟩,HB2.out⟩
    · rw[dF hte]at htz;have HCUT:=hid (zjU t wr (HLY.out _ HB.out) htl);have htl2:=zhQ t hte;have hla:=lnA_le t;have hcr:=cr_le (lnA t);have hlnl:(ln t).length<=20000:=by
       unfold ln;split
       · omega
       · omega
      have HNE:=hid hte;have HL0:Hid (lnE t=false->ln t=lnA t):=fun h=>(by unfold ln;rw[h];rfl);have HL1:Hid (lnE t=true->ln t=cr (lnA t)):=fun h=>(by unfold ln;rw[h];rfl);have HTR:=hid fun W=>zhj (lnA t) W (by omega);clear hla hcr hte;obtain ⟨tr,htr⟩:∃tr,lnB t=tr:=⟨_,rfl⟩;obtain ⟨b,hb⟩:∃b,lnE t=b:=⟨_,rfl⟩;rw[htr]at HCUT htl2;rw[hb]at HCUT HL0 HL1;have HTRE:=hid htr;clear htr hb;by_cases h200:200<n+1
      · have h2z:(200:Int)<(n:Int)+1:=(by omega);have hwn:IntKind.i64.wrap ((n:Int)+1)=(n:Int)+1:=(wI (by omega));have HER:Hid (parV false s=.error (n+1,3)):=by
         show _=_;rw[HPX.out,zkF HNE.out h200]
        clear h200;go_wp2_with fail
        refine HCUT.out.mono ?_;rintro e w2 ⟨rfl,nn,rfl⟩;have HB2:Hid (Below w.heap.size w (wr.drewN nn)):=HB.out.trans ⟨rfl,rfl,rfl,nL,fun _ _=>rfl⟩;cases b
        · go_wp2
          (try rw[Exit.noGoto_ret])
          go_ret3;exact ⟨.inr ⟨n+1,3,HER.out,by go_num⟩,HB2.out⟩
        · go_wp2_with fail
          refine (HTR.out _).mono ?_;rintro e w3 ⟨rfl,rfl⟩;go_wp2
          (try rw[Exit.noGoto_ret])
          go_ret3;exact ⟨.inr ⟨n+1,3,HER.out,by go_num⟩,HB2.out⟩
      · have h2z:¬(200:Int)<(n:Int)+1:=(by omega);have hwn:IntKind.i64.wrap ((n:Int)+1)=(n:Int)+1:=(wI (by omega));have H200:=hid h200;clear h200;go_wp2_with fail
        refine HCUT.out.mono ?_;rintro e w2 ⟨rfl,nn,rfl⟩;have hbd:Below wr.heap.size wr (wr.drewN nn):=⟨rfl,rfl,rfl,nL,fun _ _=>rfl⟩;have HB2:=hid (HB.out.trans (hbd.mono hws));have HROW2:=hid (HROW.out.below hbd);have HMAP2:=hid (HMAP.out.below hbd);clear hbd HB HROW HMAP HCUT;generalize wr.drewN nn=w2 at HB2 HROW2 HMAP2 ⊢;have HON:=hid (zgz (ln t) w2 (by have:=HB2.out.size;omega) (HLY.out _ HB2.out) (by omega));have hwB:w.heap.size<w2.heap.size:=HMAP2.out.lt;rcases hbb:b with _ | _;all_goals subst hbb
        · have HE:=hid (HL0.out rfl);clear HL0 HL1;go_wp2_with fail
          rw[<-HE.out];refine HON.out.mono ?_;rintro e w3 ⟨hb3,rfl⟩;have HB3:=hid (HB2.out.trans (hb3.mono HB2.out.size));have HROW3:=hid (HROW2.out.below hb3);have HMAP3:=hid (HMAP2.out.below hb3);have hwB3:w.heap.size<w3.heap.size:=HMAP3.out.lt;have hws3:=HB3.out.size;clear hb3 HON HTR HMAP2 HROW2 HB2;obtain ⟨o,ho⟩:∃o,oneV false (ln t)=o:=⟨_,rfl⟩;rw[ho];have HO:=hid ho;clear ho;rcases o with _ | _ | ⟨⟨k0,x0,e0⟩,⟨k1,x1,e1⟩,⟨k2,x2,e2⟩⟩
          · have HER:Hid (parV false s=.error (n+1,2)):=by
             show _=_;rw[HPX.out,ziF HNE.out H200.out HO.out]
            go_wp2
            (try rw[Exit.noGoto_ret])
            go_ret3;exact ⟨.inr ⟨n+1,2,HER.out,by go_num⟩,HB3.out.alloc hws3 _⟩
          · have HPX2:Hid (parV false s=parX tr (A.map Subtype.val) (n+1)):=by
             show _=_;rw[HPX.out,zkD HNE.out H200.out HO.out,HTRE.out]
            have HMAP4:=hid (HMAP3.out.below ((Below.refl _ w3).alloc nL (.cells #[.int .i64 0,.string ⟨#[]⟩,.string ⟨#[]⟩,.int .i64 0,.string ⟨#[]⟩,.string ⟨#[]⟩,.int .i64 0,.string ⟨#[]⟩,.string ⟨#[]⟩] 96)));have HROW4:=hid (HROW3.out.below ((Below.refl _ w3).alloc nL (.cells #[.int .i64 0,.string ⟨#[]⟩,.string ⟨#[]⟩,.int .i64 0,.string ⟨#[]⟩,.string ⟨#[]⟩,.int .i64 0,.string ⟨#[]⟩,.string ⟨#[]⟩] 96)));have HB4:=hid (HB3.out.alloc hws3 (.cells #[.int .i64 0,.string ⟨#[]⟩,.string ⟨#[]⟩,.int .i64 0,.string ⟨#[]⟩,.string ⟨#[]⟩,.int .i64 0,.string ⟨#[]⟩,.string ⟨#[]⟩] 96));go_wp2;go_roundw
            case rel=>exact ⟨tr,A,n+1,rfl,by go_num,by omega,hAl,by have:=H200.out;omega,HPX2.out,HROW4.out,HMAP4.out,HB4.out⟩
            case measure=>simp only[zab];omega
          · have hgood:triT ⟨⟨k0,x0,e0⟩,⟨k1,x1,e1⟩,⟨k2,x2,e2⟩⟩=true:=zcm HO.out;obtain ⟨wb,hwb⟩:∃wb,w3.alloc (.cells #[.int .i64 k0,.string (str x0),.string (str e0),.int .i64 k1,.string (str x1),.string (str e1),.int .i64 k2,.string (str x2),.string (str e2)] 96)=wb:=⟨_,rfl⟩;have h9:A9 wb w3.heap.size 96 (.int .i64 k0) (.string (str x0)) (.string (str e0)) (.int .i64 k1) (.string (str x1)) (.string (str e1)) (.int .i64 k2) (.string (str x2)) (.string (str e2)):=(by rw[<-hwb];exact A9.new _ _ _ _ _ _ _ _ _ _ _);have hbb:Below w3.heap.size w3 wb:=(by rw[<-hwb];exact br.alloc nL _);have HB4:=hid (HB3.out.trans (hbb.mono hws3));have HROW4:=hid (HROW3.out.below hbb);have HMAP4:=hid (HMAP3.out.below hbb);have hlook:=ziu HMAP4.out vkeys ⟨⟨k0,x0,e0⟩,⟨k1,x1,e1⟩,⟨k2,x2,e2⟩⟩ (VTri.key ⟨_,hgood⟩);have hput:=zkn HMAP4.out vkeys ⟨⟨k0,x0,e0⟩,⟨k1,x1,e1⟩,⟨k2,x2,e2⟩⟩ (VTri.key ⟨_,hgood⟩);have HGOOD:=hid hgood;unfold encTri encT at hlook hput ⊢;simp only[List.cons_append,List.nil_append]at hlook hput ⊢;have HPUT:=hid hput;have H9:=hid h9;have c0:=h9.c0;have c1:=h9.c1;have c2:=h9.c2;have c3:=h9.c3;have c4:=h9.c4;have c5:=h9.c5;have c6:=h9.c6;have c7:=h9.c7;have c8:=h9.c8;have hs4:=HB4.out.size;clear h9 hbb hput hgood HB3 HROW3 HMAP3;by_cases hin:(⟨⟨k0,x0,e0⟩,⟨k1,x1,e1⟩,⟨k2,x2,e2⟩⟩:Tri)∈A.map Subtype.val
            · rw[dT hin]at hlook;have HPX2:Hid (parV false s=parX tr (A.map Subtype.val) (n+1)):=by
               show _=_;rw[HPX.out,zkE HNE.out H200.out HO.out hin,HTRE.out]
              clear hin HPUT;go_wp2;go_roundw
              case rel=>exact ⟨tr,A,n+1,rfl,by go_num,by omega,hAl,by have:=H200.out;omega,HPX2.out,HROW4.out,HMAP4.out,HB4.out⟩
              case measure=>simp only[zab];omega
            · rw[dF hin]at hlook;obtain ⟨o,hput,hmap5⟩:=HPUT.out hin;have hmo:∃es cl,wb.heap[w.heap.size]?=some (.map es cl):=by
               obtain ⟨es,cl,h,_⟩:=HMAP4.out;exact ⟨es,cl,h⟩
              obtain ⟨es,cl,hmo⟩:=hmo;have hb5:Below w.heap.size wb (wb.putObj w.heap.size o):=(Below.refl _ wb).grown (grownBy_putObj' wb w.heap.size o) (by omega) (fun k e=>by cases e;exact nL);have HB5:=hid (HB4.out.trans hb5);have HROW5:=hid (ownsRow_putObj HROW4.out o hmo rfl);have HMAP5:=hid hmap5;have h9b:A9 (wb.putObj w.heap.size o) w3.heap.size 96 (.int .i64 k0) (.string (str x0)) (.string (str e0)) (.int .i64 k1) (.string (str x1)) (.string (str e1)) (.int .i64 k2) (.string (str x2)) (.string (str e2)):=⟨(World.putObj_heap_other (by omega)).trans H9.out.h⟩;have d0:=h9b.c0;have d1:=h9b.c1;have d2:=h9b.c2;have d3:=h9b.c3;have d4:=h9b.c4;have d5:=h9b.c5;have d6:=h9b.c6;have d7:=h9b.c7;have d8:=h9b.c8;have hs5:=HB5.out.size;have HIN:=hid hin;obtain ⟨i0,hi,hz0,hz1,hz2⟩:=za1;clear h9b hb5 hmap5 hmo H9 HPUT hin;obtain ⟨wc,hwc⟩:∃wc,wb.putObj w.heap.size o=wc:=⟨_,rfl⟩;rw[hwc]at hput HB5 HROW5 HMAP5 d0 d1 d2 d3 d4 d5 d6 d7 d8 hs5;clear hwc;obtain ⟨al,hal⟩:∃al,A.length=al:=⟨_,rfl⟩;have HAL:=hid hal;have hrow5:wc.ownsRow w.heap.size 96 9 u6 al (A.flatMap encV):=by
               have h:=HROW5.out;rw[hal]at h;exact h
              have HROW6:=hid hrow5;rw[hal]at hAl;clear hrow5 hal;go_wp2_with (at_builtin;refine wpList_append_own _ rfl _ _ 39 rfl w.heap.size 96 i0 _ 9 120 underlying39 hi hz0 hz1 hz2 rfl (by decide) _ al (A.flatMap encV) rfl (HROW6.out.alloc _) ⟨wc.heap.size,0,none⟩ 1 1 [.int .i64 k0,.string (str x0),.string (str e0),.int .i64 k1,.string (str x1),.string (str e1),.int .i64 k2,.string (str x2),.string (str e2)] rfl rfl ?q1 ?q2 ?q3 ?q4 ?q5 ?_)
              case q1=>exact World.news_of_block (heap_alloc_new wc _)
              case q2=>simp[Value.oneCell']
              case q3=>unfold maxLen;omega
              case q4=>omega
              case q5=>simp;omega
              intro v8 w8 hown8 hg8 _;obtain ⟨Av8,cv8,rfl⟩:=Fd.zac hown8;have HROW8:Hid (RowV w8 w.heap.size (.slice Av8 (al+1) cv8) (A++[(⟨_,HGOOD.out⟩:VTri)])):=by
               show w8.ownsRow _ _ _ _ _ _;rw[List.length_append,List.flatMap_append,HAL.out];exact hown8
              have HMAP8:Hid (MapIs w8 w.heap.size ((A++[(⟨_,HGOOD.out⟩:VTri)]).map Subtype.val)):=by
               show MapIs _ _ _;rw[List.map_append];exact (HMAP5.out.below ((Below.refl _ wc).alloc nL (.cells #[.int .i64 k0,.string (str x0),.string (str e0),.int .i64 k1,.string (str x1),.string (str e1),.int .i64 k2,.string (str x2),.string (str e2)] 96))).grown (HROW6.out.alloc _) hg8
              have HB8:=hid ((HB5.out.alloc HB5.out.size (.cells #[.int .i64 k0,.string (str x0),.string (str e0),.int .i64 k1,.string (str x1),.string (str e1),.int .i64 k2,.string (str x2),.string (str e2)] 96)).grown hg8 (by simp;omega) (fun j hj=>(HROW6.out.lt j hj).1));clear hown8 hg8 HROW6 HROW5 HMAP5 HB5 d0 d1 d2 d3 d4 d5 d6 d7 d8 c0 c1 c2 c3 c4 c5 c6 c7 c8 hput hlook;by_cases h100:100<al+1
              · have h100z:(100:Int)<(al:Int)+1:=(by omega);have HER:Hid (parV false s=.error (n+1,3)):=by
                 show _=_;rw[HPX.out,zgv HNE.out H200.out HO.out HIN.out (by rw[List.length_map,HAL.out];exact h100)]
                clear h100;go_wp2
                (try rw[Exit.noGoto_ret])
                go_ret3;exact ⟨.inr ⟨n+1,3,HER.out,by go_num⟩,HB8.out⟩
              · have h100z:¬(100:Int)<(al:Int)+1:=(by omega);have HPX2:Hid (parV false s=parX tr ((A++[(⟨_,HGOOD.out⟩:VTri)]).map Subtype.val) (n+1)):=by
                 show _=_;rw[HPX.out,ziE HNE.out H200.out HO.out HIN.out (by rw[List.length_map,HAL.out];exact h100),HTRE.out,List.map_append];rfl
                have hl100:al+1<=100:=(by omega);clear h100;go_wp2;go_roundw
                case rel=>exact ⟨tr,A++[(⟨_,HGOOD.out⟩:VTri)],n+1,rfl,by go_num,by omega,by rw[List.length_append,HAL.out];exact hl100,by have:=H200.out;omega,HPX2,HROW8.out,HMAP8,HB8.out⟩
                case measure=>simp only[zab];omega
        · have HE:=hid (HL1.out rfl);clear HL0 HL1;go_wp2_with fail
          refine (HTR.out _).mono ?_;rintro e w3 ⟨rfl,rfl⟩;go_wp2_with fail
          rw[<-HE.out];refine HON.out.mono ?_;rintro e w3 ⟨hb3,rfl⟩;have HB3:=hid (HB2.out.trans (hb3.mono HB2.out.size));have HROW3:=hid (HROW2.out.below hb3);have HMAP3:=hid (HMAP2.out.below hb3);have hwB3:w.heap.size<w3.heap.size:=HMAP3.out.lt;have hws3:=HB3.out.size;clear hb3 HON HTR HMAP2 HROW2 HB2;obtain ⟨o,ho⟩:∃o,oneV false (ln t)=o:=⟨_,rfl⟩;rw[ho];have HO:=hid ho;clear ho;rcases o with _ | _ | ⟨⟨k0,x0,e0⟩,⟨k1,x1,e1⟩,⟨k2,x2,e2⟩⟩
          · have HER:Hid (parV false s=.error (n+1,2)):=by
             show _=_;rw[HPX.out,ziF HNE.out H200.out HO.out]
            go_wp2
            (try rw[Exit.noGoto_ret])
            go_ret3;exact ⟨.inr ⟨n+1,2,HER.out,by go_num⟩,HB3.out.alloc hws3 _⟩
          · have HPX2:Hid (parV false s=parX tr (A.map Subtype.val) (n+1)):=by
             show _=_;rw[HPX.out,zkD HNE.out H200.out HO.out,HTRE.out]
            have HMAP4:=hid (HMAP3.out.below ((Below.refl _ w3).alloc nL (.cells #[.int .i64 0,.string ⟨#[]⟩,.string ⟨#[]⟩,.int .i64 0,.string ⟨#[]⟩,.string ⟨#[]⟩,.int .i64 0,.string ⟨#[]⟩,.string ⟨#[]⟩] 96)));have HROW4:=hid (HROW3.out.below ((Below.refl _ w3).alloc nL (.cells #[.int .i64 0,.string ⟨#[]⟩,.string ⟨#[]⟩,.int .i64 0,.string ⟨#[]⟩,.string ⟨#[]⟩,.int .i64 0,.string ⟨#[]⟩,.string ⟨#[]⟩] 96)));have HB4:=hid (HB3.out.alloc hws3 (.cells #[.int .i64 0,.string ⟨#[]⟩,.string ⟨#[]⟩,.int .i64 0,.string ⟨#[]⟩,.string ⟨#[]⟩,.int .i64 0,.string ⟨#[]⟩,.string ⟨#[]⟩] 96));go_wp2;go_roundw
            case rel=>exact ⟨tr,A,n+1,rfl,by go_num,by omega,hAl,by have:=H200.out;omega,HPX2.out,HROW4.out,HMAP4.out,HB4.out⟩
            case measure=>simp only[zab];omega
          · have hgood:triT ⟨⟨k0,x0,e0⟩,⟨k1,x1,e1⟩,⟨k2,x2,e2⟩⟩=true:=zcm HO.out;obtain ⟨wb,hwb⟩:∃wb,w3.alloc (.cells #[.int .i64 k0,.string (str x0),.string (str e0),.int .i64 k1,.string (str x1),.string (str e1),.int .i64 k2,.string (str x2),.string (str e2)] 96)=wb:=⟨_,rfl⟩;have h9:A9 wb w3.heap.size 96 (.int .i64 k0) (.string (str x0)) (.string (str e0)) (.int .i64 k1) (.string (str x1)) (.string (str e1)) (.int .i64 k2) (.string (str x2)) (.string (str e2)):=(by rw[<-hwb];exact A9.new _ _ _ _ _ _ _ _ _ _ _);have hbb:Below w3.heap.size w3 wb:=(by rw[<-hwb];exact br.alloc nL _);have HB4:=hid (HB3.out.trans (hbb.mono hws3));have HROW4:=hid (HROW3.out.below hbb);have HMAP4:=hid (HMAP3.out.below hbb);have hlook:=ziu HMAP4.out vkeys ⟨⟨k0,x0,e0⟩,⟨k1,x1,e1⟩,⟨k2,x2,e2⟩⟩ (VTri.key ⟨_,hgood⟩);have hput:=zkn HMAP4.out vkeys ⟨⟨k0,x0,e0⟩,⟨k1,x1,e1⟩,⟨k2,x2,e2⟩⟩ (VTri.key ⟨_,hgood⟩);have HGOOD:=hid hgood;unfold encTri encT at hlook hput ⊢;simp only[List.cons_append,List.nil_append]at hlook hput ⊢;have HPUT:=hid hput;have H9:=hid h9;have c0:=h9.c0;have c1:=h9.c1;have c2:=h9.c2;have c3:=h9.c3;have c4:=h9.c4;have c5:=h9.c5;have c6:=h9.c6;have c7:=h9.c7;have c8:=h9.c8;have hs4:=HB4.out.size;clear h9 hbb hput hgood HB3 HROW3 HMAP3;by_cases hin:(⟨⟨k0,x0,e0⟩,⟨k1,x1,e1⟩,⟨k2,x2,e2⟩⟩:Tri)∈A.map Subtype.val
            · rw[dT hin]at hlook;have HPX2:Hid (parV false s=parX tr (A.map Subtype.val) (n+1)):=by
               show _=_;rw[HPX.out,zkE HNE.out H200.out HO.out hin,HTRE.out]
              clear hin HPUT;go_wp2;go_roundw
              case rel=>exact ⟨tr,A,n+1,rfl,by go_num,by omega,hAl,by have:=H200.out;omega,HPX2.out,HROW4.out,HMAP4.out,HB4.out⟩
              case measure=>simp only[zab];omega
            · rw[dF hin]at hlook;obtain ⟨o,hput,hmap5⟩:=HPUT.out hin;have hmo:∃es cl,wb.heap[w.heap.size]?=some (.map es cl):=by
               obtain ⟨es,cl,h,_⟩:=HMAP4.out;exact ⟨es,cl,h⟩
              obtain ⟨es,cl,hmo⟩:=hmo;have hb5:Below w.heap.size wb (wb.putObj w.heap.size o):=(Below.refl _ wb).grown (grownBy_putObj' wb w.heap.size o) (by omega) (fun k e=>by cases e;exact nL);have HB5:=hid (HB4.out.trans hb5);have HROW5:=hid (ownsRow_putObj HROW4.out o hmo rfl);have HMAP5:=hid hmap5;have h9b:A9 (wb.putObj w.heap.size o) w3.heap.size 96 (.int .i64 k0) (.string (str x0)) (.string (str e0)) (.int .i64 k1) (.string (str x1)) (.string (str e1)) (.int .i64 k2) (.string (str x2)) (.string (str e2)):=⟨(World.putObj_heap_other (by omega)).trans H9.out.h⟩;have d0:=h9b.c0;have d1:=h9b.c1;have d2:=h9b.c2;have d3:=h9b.c3;have d4:=h9b.c4;have d5:=h9b.c5;have d6:=h9b.c6;have d7:=h9b.c7;have d8:=h9b.c8;have hs5:=HB5.out.size;have HIN:=hid hin;obtain ⟨i0,hi,hz0,hz1,hz2⟩:=za1;clear h9b hb5 hmap5 hmo H9 HPUT hin;obtain ⟨wc,hwc⟩:∃wc,wb.putObj w.heap.size o=wc:=⟨_,rfl⟩;rw[hwc]at hput HB5 HROW5 HMAP5 d0 d1 d2 d3 d4 d5 d6 d7 d8 hs5;clear hwc;obtain ⟨al,hal⟩:∃al,A.length=al:=⟨_,rfl⟩;have HAL:=hid hal;have hrow5:wc.ownsRow w.heap.size 96 9 u6 al (A.flatMap encV):=by
               have h:=HROW5.out;rw[hal]at h;exact h
              have HROW6:=hid hrow5;rw[hal]at hAl;clear hrow5 hal;go_wp2_with (at_builtin;refine wpList_append_own _ rfl _ _ 39 rfl w.heap.size 96 i0 _ 9 120 underlying39 hi hz0 hz1 hz2 rfl (by decide) _ al (A.flatMap encV) rfl (HROW6.out.alloc _) ⟨wc.heap.size,0,none⟩ 1 1 [.int .i64 k0,.string (str x0),.string (str e0),.int .i64 k1,.string (str x1),.string (str e1),.int .i64 k2,.string (str x2),.string (str e2)] rfl rfl ?q1 ?q2 ?q3 ?q4 ?q5 ?_)
              case q1=>exact World.news_of_block (heap_alloc_new wc _)
              case q2=>simp[Value.oneCell']
              case q3=>unfold maxLen;omega
              case q4=>omega
              case q5=>simp;omega
              intro v8 w8 hown8 hg8 _;obtain ⟨Av8,cv8,rfl⟩:=Fd.zac hown8;have HROW8:Hid (RowV w8 w.heap.size (.slice Av8 (al+1) cv8) (A++[(⟨_,HGOOD.out⟩:VTri)])):=by
               show w8.ownsRow _ _ _ _ _ _;rw[List.length_append,List.flatMap_append,HAL.out];exact hown8
              have HMAP8:Hid (MapIs w8 w.heap.size ((A++[(⟨_,HGOOD.out⟩:VTri)]).map Subtype.val)):=by
               show MapIs _ _ _;rw[List.map_append];exact (HMAP5.out.below ((Below.refl _ wc).alloc nL (.cells #[.int .i64 k0,.string (str x0),.string (str e0),.int .i64 k1,.string (str x1),.string (str e1),.int .i64 k2,.string (str x2),.string (str e2)] 96))).grown (HROW6.out.alloc _) hg8
              have HB8:=hid ((HB5.out.alloc HB5.out.size (.cells #[.int .i64 k0,.string (str x0),.string (str e0),.int .i64 k1,.string (str x1),.string (str e1),.int .i64 k2,.string (str x2),.string (str e2)] 96)).grown hg8 (by simp;omega) (fun j hj=>(HROW6.out.lt j hj).1));clear hown8 hg8 HROW6 HROW5 HMAP5 HB5 d0 d1 d2 d3 d4 d5 d6 d7 d8 c0 c1 c2 c3 c4 c5 c6 c7 c8 hput hlook;by_cases h100:100<al+1
              · have h100z:(100:Int)<(al:Int)+1:=(by omega);have HER:Hid (parV false s=.error (n+1,3)):=by
                 show _=_;rw[HPX.out,zgv HNE.out H200.out HO.out HIN.out (by rw[List.length_map,HAL.out];exact h100)]
                clear h100;go_wp2
                (try rw[Exit.noGoto_ret])
                go_ret3;exact ⟨.inr ⟨n+1,3,HER.out,by go_num⟩,HB8.out⟩
              · have h100z:¬(100:Int)<(al:Int)+1:=(by omega);have HPX2:Hid (parV false s=parX tr ((A++[(⟨_,HGOOD.out⟩:VTri)]).map Subtype.val) (n+1)):=by
                 show _=_;rw[HPX.out,ziE HNE.out H200.out HO.out HIN.out (by rw[List.length_map,HAL.out];exact h100),HTRE.out,List.map_append];rfl
                have hl100:al+1<=100:=(by omega);clear h100;go_wp2;go_roundw
                case rel=>exact ⟨tr,A++[(⟨_,HGOOD.out⟩:VTri)],n+1,rfl,by go_num,by omega,by rw[List.length_append,HAL.out];exact hl100,by have:=H200.out;omega,HPX2,HROW8.out,HMAP8,HB8.out⟩
                case measure=>simp only[zab];omega
def LoadAns (w:World) (s:Bs) (e:Ending) (w':World):Prop:=
 ((∃(A r:List VTri) (n:Nat) (S:Nat) (v:Value) (ts:List VTm),parV false s=.ok (A.map Subtype.val,n)/\SortOf A r/\StoreIs w' S v r ts/\e=.returned (.tuple #[.pointer (some ⟨S,0,none⟩),.int .i64 n,.int .i64 0]))\/(∃n k:Nat,parV false s=.error (n,k)/\e=.returned (.tuple #[.pointer none,.int .i64 n,.int .i64 k])))/\Below w.heap.size w w'
theorem zbN:∀(f:Nat) (s:Bs) (acc:List Tri) (n a b:Nat),parGo false f s acc n=.error (a,b)->b=2\/b=3
 | 0,_,_,_,_,_,h=>by cases h
 | f+1,s,acc,n,a,b,h=>by
  unfold parGo at h;split at h
  · cases h
  · split at h
    · cases h;exact .inr rfl
    · split at h
      · cases h;exact .inl rfl
      · exact zbN f _ _ _ _ _ h
      · split at h
        · exact zbN f _ _ _ _ _ h
        · split at h
          · cases h;exact .inr rfl
          · exact zbN f _ _ _ _ _ h
theorem zkH {s:Bs} {n k:Nat} (h:parV false s=.error (n,k)):k≠0:=by
 unfold parV at h;split at h
 · cases h;decide
 · rcases zbN _ _ _ _ _ _ h with rfl | rfl<;>decide
theorem zjz (s:Bs) (w:World) (h4:4<=w.heap.size) (ht:Lay w):Calls prog 10 #[.string (str s)] w (LoadAns w s):=by
 have HP:=hid (zhH s w h4 ht);clear ht;go_enter func10,ntmps10
 go_wp2_with fail
 refine HP.out.mono ?_;rintro e w1 ⟨⟨A,r,n,v,hok,hl,hso,rfl,hrow⟩ | ⟨n,k,her,rfl⟩,hb1⟩
 · have HB1:=hid hb1;have HOK:=hid hok;have HSO:=hid hso;have hrl:=SortOf.len hso;have HM:=hid (zeY r v w1 (zaj hrow (Nat.zero_le _)) hso.1 (by omega));clear hb1 hok hso hrow HP;go_wp2_with fail
   refine HM.out.mono ?_;rintro e w2 ⟨S,ts,rfl,hst,hb2⟩;have HST:=hid hst;have HB2:=hid (HB1.out.trans (hb2.mono HB1.out.size));clear hst hb2 HM;go_wp2;go_ret3;exact ⟨.inl ⟨A,r,n,S,v,ts,HOK.out,HSO.out,HST.out,rfl⟩,HB2.out⟩
 · have HB1:=hid hb1;have HER:=hid her;have hk:((k:Int) != 0)=true:=by
    have:=zkH her;rw[bne_iff_ne];omega
   clear her hb1 HP;go_wp2;go_ret3;exact ⟨.inr ⟨n,k,HER.out,rfl⟩,HB1.out⟩
theorem zlb:triT knownT=true:=by decide +kernel
def knownV:VTri:=⟨knownT,zlb⟩
theorem zjD {A r:List VTri} (hA:A.map Subtype.val=[knownT]) (h:SortOf A r):r=[knownV]:=by
 obtain rfl:A=[knownV]:=zig (by rw[hA];rfl);exact h.one ⟨List.pairwise_singleton _ _,fun _=>Iff.rfl⟩
def knownTs:List VTm:=[sM knownV,pM knownV,oM knownV]
theorem zjE:Rise (ltOf cmpM) knownTs:=by
 have h1:ltOf cmpM (sM knownV) (pM knownV)=true:=(by decide +kernel);have h2:ltOf cmpM (sM knownV) (oM knownV)=true:=(by decide +kernel);have h3:ltOf cmpM (pM knownV) (oM knownV)=true:=(by decide +kernel);unfold Rise knownTs;simp[h1,h2,h3]
theorem zhS {ts:List VTm} (h:TermsOf [knownV] ts):ts=knownTs:=h.one ⟨zjE,fun _=>Iff.rfl⟩
theorem zhT (w:World) (h4:4<=w.heap.size) (ht:Lay w):Calls prog 8 #[] w fun e w'=>e=.returned (.bool true)/\Below w.heap.size w w':=by
 have hk:str knownS=(⟨#[60,97,62,32,60,98,62,32,60,99,62,32,46,10]⟩:ByteArray):=rfl;have hld:=zjz knownS w h4 ht;rw[hk]at hld;have HLD:=hid hld;clear hld ht hk;go_enter func8,ntmps8
 go_wp2_with fail
 refine HLD.out.mono ?_;rintro e w1 ⟨⟨A,r,n,S,v,ts,hok,hso,hst,rfl⟩ | ⟨n,k,her,rfl⟩,hb1⟩
 · rw[ze1]at hok;injection hok with hok;injection hok with h1 h2;subst h2;obtain rfl:=zjD h1.symm hso;obtain rfl:=zhS hst.ok.terms;have HLEN:=hid (len_of S v [knownV] knownTs w1 hst);have HST:=hid hst;have HB1:=hid hb1;clear h1 hso hst hb1 HLD;go_wp2_with fail
   refine HLEN.out.mono ?_;rintro e w2 ⟨rfl,hb2⟩;have HB2:=hid (HB1.out.trans (hb2.mono HB1.out.size));have HTE:=hid (zl9 S v [knownV] knownTs w2 (HST.out.below hb2));clear hb2 HLEN HB1 HST;rw[show ([knownV].length:Int)=1 from rfl];go_wp2_with fail
   refine HTE.out.mono ?_;rintro e w3 ⟨v3,rfl,hrow,hb3⟩;obtain ⟨A3,c3,rfl⟩:=Fd.zac hrow;have HB3:=hid (HB2.out.trans (hb3.mono HB2.out.size));rw[show knownTs.length=3 from rfl];clear hrow hb3 HTE HB2;go_wp2;go_ret;exact ⟨rfl,HB3.out⟩
 · rw[ze1]at her;cases her
end Go.Proofs.YtjcpjopbgngihaaGreatDoor
end
