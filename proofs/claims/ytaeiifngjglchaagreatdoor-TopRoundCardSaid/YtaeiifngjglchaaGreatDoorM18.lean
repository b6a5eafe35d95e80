/- Proved on the way: Package store: shown; slices.Chunk: the iterator and its contr; Package store: triples; Package store: triples, the loop. Each theorem states its own conditions. -/
import Derived.RangeFuncNested
import Derived.RangeFuncBound
import Derived.Test.YtaeiifngjglchaaGreatDoorM17
set_option maxHeartbeats 16000000
set_option maxRecDepth 1000000
set_option linter.unusedSimpArgs false
section
namespace Go.Proofs.YtaeiifngjglchaaGreatDoor
open Go.Proofs.Tryz
open Go.RowKit Go.Lib Tv Go.Sort
open Go.Proofs.YtaeiifngjglchaaGreatDoorW.PrintLast
theorem zhc {P:Program} {fn:Func} {p u:Tmp} {ty:TypeId} (h:fn.results=#[.cell p ty,.tmp u]) (tmps:Array Value) (w:World) (g:Nat) (t:TypeId) (cs:Array Value) (fr:Nat × Nat) (d:TypeDesc)
    (hp:tmps.getD p undef=.pointer (some ⟨g,0,none⟩)) (hg:w.heap[g]?=some (.cells cs t fr))
    (hu:P.underlying ty=some d) (hd:(match d with | .struct _ | .array _ _=>true | _=>false)=true) (hi:(P.info? ty).map (·.size)=some cs.size) :
    (results fn tmps).run P w=.ok (.tuple #[.agg cs,tmps.getD u undef]) w:=by
 have hp':tmps[p]?.getD undef=.pointer (some ⟨g,0,none⟩):=(by simpa using hp);simp[results,h,hp',asAddr,run_loadVar_row w g t ty cs fr d hg hu hd hi]
theorem zfZ {fn:Func} {p u:Tmp} (h:fn.results=#[.cell p 62,.tmp u]) {a:Act} {w:World} {R:Ending->World->Prop} (hd:a.defers=[]) {B:Nat} {x y z:Value}
    (hp:a.tmps.getD p undef=.pointer (some ⟨B,0,none⟩)) (ht:T3 w B x y z) (hR:R (.returned (.tuple #[.agg #[x,y,z],a.tmps.getD u undef])) w):bodyPost prog fn R .ret a w:=
 bodyPost_ret (zhc h _ _ B 62 #[x,y,z] (0,0) _ hp ht.h underlying62 rfl (by kernel_rfl)) hd hR
theorem str_eq (a b:Bs):((str a).toList == (str b).toList)=decide (a=b):=by
 rw[Lib.toList_data,Lib.toList_data,zad,zad];by_cases h:a=b
 · subst h;simp
 · rw[dF h,beq_eq_false_iff_ne];exact h
theorem zlM {s:Bs} {t:Tri} (h:oneV false (shLine s)=some (some t)) (hs:shw t.o=s):shownV s=some t.o:=by
 unfold shownV;rw[h];exact if_pos hs
theorem zlO {s:Bs} {t:Tri} (h:oneV false (shLine s)=some (some t)) (hs:shw t.o≠s):shownV s=none:=by
 unfold shownV;rw[h];exact if_neg hs
theorem zlN {s:Bs} {o:Option (Option Tri)} (h:oneV false (shLine s)=o) (ho:∀t,o≠some (some t)):shownV s=none:=by
 unfold shownV;rw[h]
 cases o with
 | none=>rfl
 | some o=>
  cases o with
  | none=>rfl
  | some t=>exact absurd rfl (ho t)
theorem ze8 (s:Bs):oneV false (shLine s)≠some none:=by
 intro h;have hb:blk (shLine s)=shLine s:=(by unfold shLine;exact zbY (by decide));have hov:ovr (shLine s)=false:=(by unfold shLine ovr;simp);unfold oneV at h;rw[hb,hov]at h;split at h
 · rw[if_neg (by decide)]at h;cases hq:threeV false (shLine s) with
   | none=>rw[hq]at h;cases h
   | some q=>
    rw[hq,Option.bind_some]at h;unfold tailV at h;split at h
    · split at h<;>cases h
    · cases h
 · cases h
def ShAns (o:Option Tm) (e:Ending):Prop:=
 (∃t,o=some t/\e=.returned (.tuple #[.agg (encT t).toArray,.bool true]))\/(∃t,o=none/\e=.returned (.tuple #[.agg (encT t).toArray,.bool false]))
theorem zg8 (s:Bs) (w:World) (h4:4<=w.heap.size) (ht:Lay w) (hl:s.length<=40000) :
    Calls prog 85 #[.string (str s)] w fun e w'=>Below w.heap.size w w'/\ShAns (shownV s) e:=by
 obtain ⟨wa,hwa⟩:∃wa,w.alloc (.cells #[.int .i64 0,.string ⟨#[]⟩,.string ⟨#[]⟩] 62)=wa:=⟨_,rfl⟩;have hba:Below w.heap.size w wa:=(by rw[<-hwa];exact br.alloc nL _);have hna:wa.heap.size=w.heap.size+1:=(by rw[<-hwa];simp);have t2a:T3 wa w.heap.size (.int .i64 0) (.string ⟨#[]⟩) (.string ⟨#[]⟩):=(by rw[<-hwa];exact T3.new _ _ _ _);have hsz:(str s).size<=40000:=(by rw[zab];exact hl);have hln:str (shLine s)=(⟨#[60,97,62,32,60,97,62,32]⟩:ByteArray)++str s++⟨#[32,46]⟩:=by
  unfold shLine;rw[<-zax,<-zax];rfl
 have HON:=hid (zgb (shLine s) wa (by omega) (ht.below hba) (by unfold shLine;simp;omega));rw[hln]at HON;have HBA:=hid hba;have HT2:=hid t2a;have HSM:Hid (∀t,oneV false (shLine s)=some (some t)->SmlT t):=hid fun t h=>VTri.sml ⟨t,zaZ h⟩;clear hba t2a ht;obtain ⟨o,ho⟩:∃o,oneV false (shLine s)=o:=⟨_,rfl⟩;rw[ho]at HON HSM;have HO:=hid ho;clear ho hln;go_enter func85,ntmps85
 go_wp2_with fail
 refine HON.out.mono ?_;rintro v w1 ⟨hb1,rfl⟩;have HB1:=hid (HBA.out.trans (hb1.mono HBA.out.size));have HT21:=hid (HT2.out.fr (Fr.of_below hb1 fun _=>False) fun h=>h);have hn1:=hb1.size;clear hb1 HON HBA HT2;rcases o with _ | _ | ⟨⟨k1,x1,e1⟩,⟨k2,x2,e2⟩,⟨k3,x3,e3⟩⟩
 · have HNO:=hid (zlN HO.out (by intro t;simp));clear HO HSM;go_wp2_with fail
   generalize hwd:w1.alloc (.cells #[.int .i64 0,.string ⟨#[]⟩,.string ⟨#[]⟩,.int .i64 0,.string ⟨#[]⟩,.string ⟨#[]⟩,.int .i64 0,.string ⟨#[]⟩,.string ⟨#[]⟩] 110)=wd;have h9:A9 wd w1.heap.size 110 (.int .i64 0) (.string ⟨#[]⟩) (.string ⟨#[]⟩) (.int .i64 0) (.string ⟨#[]⟩) (.string ⟨#[]⟩) (.int .i64 0) (.string ⟨#[]⟩) (.string ⟨#[]⟩):=(by rw[<-hwd];exact A9.new _ _ _ _ _ _ _ _ _ _ _);have hbd:Below w1.heap.size w1 wd:=(by rw[<-hwd];exact br.alloc nL _);have HT2D:=hid (HT21.out.fr (Fr.of_below hbd fun _=>False) fun h=>h);have HBD:=hid (HB1.out.trans (hbd.mono HB1.out.size));have hst:∀W,Below wd.heap.size wd W->W.cell? ⟨w1.heap.size,6,none⟩=some (.int .i64 0)/\W.cell? ⟨w1.heap.size,7,none⟩=some (.string ⟨#[]⟩)/\W.cell? ⟨w1.heap.size,8,none⟩=some (.string ⟨#[]⟩)/\W.cell? ⟨w.heap.size,0,none⟩=some (.int .i64 0)/\W.cell? ⟨w.heap.size,1,none⟩=some (.string ⟨#[]⟩)/\W.cell? ⟨w.heap.size,2,none⟩=some (.string ⟨#[]⟩)/\(∀j,W.frozen? ⟨w.heap.size,j,none⟩=false):=by
    intro W hW;have q:=h9.fr (Fr.of_below hW fun _=>False) fun h=>h;have q2:=HT2D.out.fr (Fr.of_below hW fun _=>False) fun h=>h;exact ⟨q.c6,q.c7,q.c8,q2.c0,q2.c1,q2.c2,q2.f⟩
   have HST:=hid hst;clear hst h9 hbd hwd;refine sA 12 [10] (fun w'=>w'.cell? ⟨w1.heap.size,6,none⟩=some (.int .i64 0)/\w'.cell? ⟨w1.heap.size,7,none⟩=some (.string ⟨#[]⟩)/\w'.cell? ⟨w1.heap.size,8,none⟩=some (.string ⟨#[]⟩)/\w'.cell? ⟨w.heap.size,0,none⟩=some (.int .i64 0)/\w'.cell? ⟨w.heap.size,1,none⟩=some (.string ⟨#[]⟩)/\w'.cell? ⟨w.heap.size,2,none⟩=some (.string ⟨#[]⟩)/\(∀j,w'.frozen? ⟨w.heap.size,j,none⟩=false)) ?_ (fun hHeld=>?_)
   · exact HST.out _ br.drew
   refine pU 0 ?_;refine tK 1 hHeld ?_;refine pU 2 ?_;refine pU 3 ?_;refine pS 4 ?_;refine pS 5 ?_;refine pS 6 ?_;refine pS 7 ?_;refine pS 8 ?_;refine pU 9 ?_;have HNW:=hid (HST.out _ br);have HB2:=hid ((Below.refl w.heap.size wd).drew);have HB2:=hid (HBD.out.trans HB2.out);have HT22:=hid (HT2D.out.fr (Fr.of_below ((Below.refl wd.heap.size wd).drew) fun _=>False) fun h=>h);refine lA 10 (fun K hK=>?_);refine skip_ (w1:=?_) (by rfl) rfl ?_ ?_;rotate_left
   · obtain ⟨q6,q7,q8,z0,z1,z2,zf⟩:=HNW.out;go_simp;rfl
   refine hK.out _ _ ?_;clear hK K;refine pU 11 ?_;refine done_ (by kernel_rfl) ?_;clear hHeld HST;try rw[heq]
   go_wp2;refine zfZ rfl rfl rfl (((HT22.out.set0 _).set1 _).set2 _) ?_;refine ⟨((HB2.out.setCell (p:=⟨w.heap.size,0,none⟩) nL _).setCell (p:=⟨w.heap.size,1,none⟩) nL _).setCell (p:=⟨w.heap.size,2,none⟩) nL _,?_⟩;exact .inr ⟨⟨0,[],[]⟩,HNO.out,rfl⟩
 · exact absurd HO.out (ze8 s)
 · have HSH:=hid fun W=>zcx ⟨k3,x3,e3⟩ (HSM.out _ rfl).2.2 W;have heq:=str_eq (shw ⟨k3,x3,e3⟩) s;have HY:=hid (zlM HO.out);have HN:=hid (zlO HO.out);simp only at HY HN;unfold encT at HSH;simp only at HSH;unfold encTri encT;simp only[List.cons_append,List.nil_append];clear HO HSM;generalize shw ⟨k3,x3,e3⟩=z at HSH heq HY HN;go_wp2_with fail
   generalize hwd:w1.alloc (.cells #[.int .i64 k1,.string (str x1),.string (str e1),.int .i64 k2,.string (str x2),.string (str e2),.int .i64 k3,.string (str x3),.string (str e3)] 110)=wd;have h9:A9 wd w1.heap.size 110 (.int .i64 k1) (.string (str x1)) (.string (str e1)) (.int .i64 k2) (.string (str x2)) (.string (str e2)) (.int .i64 k3) (.string (str x3)) (.string (str e3)):=(by rw[<-hwd];exact A9.new _ _ _ _ _ _ _ _ _ _ _);have hbd:Below w1.heap.size w1 wd:=(by rw[<-hwd];exact br.alloc nL _);have HT2D:=hid (HT21.out.fr (Fr.of_below hbd fun _=>False) fun h=>h);have HBD:=hid (HB1.out.trans (hbd.mono HB1.out.size));have hst:∀W,Below wd.heap.size wd W->W.cell? ⟨w1.heap.size,6,none⟩=some (.int .i64 k3)/\W.cell? ⟨w1.heap.size,7,none⟩=some (.string (str x3))/\W.cell? ⟨w1.heap.size,8,none⟩=some (.string (str e3))/\W.cell? ⟨w.heap.size,0,none⟩=some (.int .i64 0)/\W.cell? ⟨w.heap.size,1,none⟩=some (.string ⟨#[]⟩)/\W.cell? ⟨w.heap.size,2,none⟩=some (.string ⟨#[]⟩)/\(∀j,W.frozen? ⟨w.heap.size,j,none⟩=false):=by
    intro W hW;have q:=h9.fr (Fr.of_below hW fun _=>False) fun h=>h;have q2:=HT2D.out.fr (Fr.of_below hW fun _=>False) fun h=>h;exact ⟨q.c6,q.c7,q.c8,q2.c0,q2.c1,q2.c2,q2.f⟩
   have HST:=hid hst;clear hst h9 hbd hwd;refine sA 12 [10] (fun w'=>w'.cell? ⟨w1.heap.size,6,none⟩=some (.int .i64 k3)/\w'.cell? ⟨w1.heap.size,7,none⟩=some (.string (str x3))/\w'.cell? ⟨w1.heap.size,8,none⟩=some (.string (str e3))/\w'.cell? ⟨w.heap.size,0,none⟩=some (.int .i64 0)/\w'.cell? ⟨w.heap.size,1,none⟩=some (.string ⟨#[]⟩)/\w'.cell? ⟨w.heap.size,2,none⟩=some (.string ⟨#[]⟩)/\(∀j,w'.frozen? ⟨w.heap.size,j,none⟩=false)) ?_ (fun hHeld=>?_)
   · exact HST.out _ br.drew
   refine pU 0 ?_;refine tK 1 hHeld ?_;refine pU 2 ?_;refine pU 3 ?_;refine pU 4 ?_;refine tK 5 hHeld ?_;refine pU 7 ?_;refine oN 6 (fun K hK=>?_);refine cL func37 #[.agg #[.int .i64 k3,.string (str x3),.string (str e3)]] ?_;refine (HSH.out _).mono ?_;rintro e w2 ⟨rfl,hb2⟩;refine ⟨_,rfl,?_⟩;have hb2':Below wd.heap.size wd w2:=br.drew.trans hb2;refine oU hK (HST.out _ hb2') (fun hHeld=>?_);clear hK K;have HNW:=hid (HST.out _ hb2');have HB2:=hid (HBD.out.trans (hb2'.mono HBD.out.size));have HT22:=hid (HT2D.out.fr (Fr.of_below hb2' fun _=>False) fun h=>h);refine pU 8 ?_;refine pU 9 ?_;refine lA 10 (fun K hK=>?_);refine skip_ (w1:=?_) (by rfl) rfl ?_ ?_;rotate_left
   · obtain ⟨q6,q7,q8,z0,z1,z2,zf⟩:=HNW.out;go_simp;rfl
   refine hK.out _ _ ?_;clear hK K;refine pU 11 ?_;refine done_ (by kernel_rfl) ?_;clear hHeld HST;try rw[heq]
   go_wp2;refine zfZ rfl rfl rfl (((HT22.out.set0 _).set1 _).set2 _) ?_;refine ⟨((HB2.out.setCell (p:=⟨w.heap.size,0,none⟩) nL _).setCell (p:=⟨w.heap.size,1,none⟩) nL _).setCell (p:=⟨w.heap.size,2,none⟩) nL _,?_⟩;by_cases hz:z=s
   · exact .inl ⟨⟨k3,x3,e3⟩,HY.out hz,by rw[show (Act.mk _ _).tmps=_ from rfl];simp[hz];rfl⟩
   · exact .inr ⟨⟨k3,x3,e3⟩,HN.out hz,by simp[hz];rfl⟩
end Go.Proofs.YtaeiifngjglchaaGreatDoor
end
section
namespace Go.Proofs.YtaeiifngjglchaaGreatDoor
open Go.Proofs.Tryz
open Go.RowKit Go.Shelf
section
attribute [local go_sem] Oper.semAt_some
def KB (a b:Nat) (W W':World):Prop:=W'.heap[a]?=W.heap[a]?/\W'.heap[b]?=W.heap[b]?
theorem KB.trans {a b:Nat} {A B C:World} (h:KB a b A B) (k:KB a b B C):KB a b A C:=⟨k.1.trans h.1,k.2.trans h.2⟩
theorem KB.cell {a b:Nat} {W W':World} {v:Value} (h:KB a b W W') (hv:W.cell? ⟨a,0,none⟩=some v):W'.cell? ⟨a,0,none⟩=some v:=by
 unfold World.cell? at hv ⊢;rw[h.1];exact hv
theorem KB.cell2 {a b:Nat} {W W':World} {v:Value} (h:KB a b W W') (hv:W.cell? ⟨b,0,none⟩=some v):W'.cell? ⟨b,0,none⟩=some v:=by
 unfold World.cell? at hv ⊢;rw[h.2];exact hv
theorem zmy (w:World) (row:Option Nat):w.grownBy w.drew row:=⟨rfl,rfl,rfl,nL,fun _ _ _=>rfl⟩
def fins (m k:Nat):List (Fin m):=(List.finRange m).take k
theorem zgs {m k:Nat} (h:k<m):fins m k++[⟨k,h⟩]=fins m (k+1):=by
 unfold fins;rw[List.take_add_one]
 congr 1
 rw[List.getElem?_eq_getElem (by rw[List.length_finRange];exact h),List.getElem_finRange];rfl
theorem zmz {m k:Nat} (h:k<=m):(fins m k).length=k:=by
 unfold fins;rw[List.length_take,List.length_finRange];omega
theorem zmA (m:Nat):fins m m=List.finRange m:=by
 unfold fins;exact List.take_of_length_le (by rw[List.length_finRange];exact nL)
theorem zlc (n:Nat) (hn:1<=n) (l Bs Bn g c m:Nat) (hm:m<=100000) (hc:3*m<=c) (J Jx:List (Fin m)->World->Prop)
    (hY:∀pre x W,J pre W->pre.length<m->YieldAt Fence.wide (n-1) prog l #[.slice (some ⟨g,3*x.1,none⟩) 3 3] W fun e W'=>
     (e=.returned (.bool true)/\J (pre++[x]) W'/\KB Bs Bn W W')\/(e=.returned (.bool false)/\Jx (pre++[x]) W'))
    (W:World) (hJ:AbidesFrom W.heap.size J) (hBs:W.cell? ⟨Bs,0,none⟩=some (.slice (some ⟨g,0,none⟩) ((3*m:Nat)) c)) (hBn:W.cell? ⟨Bn,0,none⟩=some (.int .i64 3)) (h0:J [] W) :
    CallsIn Fence.wide n prog 142 #[.func (.yield l) #[] #[],.pointer (some ⟨Bs,0,none⟩),.pointer (some ⟨Bn,0,none⟩)] W fun e W'=>(∃v,e=.returned v)/\
     ((∃ys,ys=List.finRange m/\J ys W')\/(∃pre,(∃k,k<=m/\pre=fins m k)/\Jx pre W')):=by
 refine callsIn_of_wp func142 rfl trivial ?_ rfl;simp only[ntmps142,List.size_toArray,List.length_cons,List.length_nil,Nat.reduceAdd,Nat.reduceSub,Array.replicate_succ,Array.replicate_zero,List.push_toArray,List.append_toArray,List.nil_append,List.cons_append]
 gi_wp2
 gi_loopw [4] (fun i wr=>∃k:Nat,k<=m/\i=.int .i64 ((3*k:Nat):Int)/\J (fins m k) wr/\KB Bs Bn W wr)
  (fun i _=>3*m-(intOf i).toNat)
 case atStart=>exact ⟨0,Nat.zero_le _,rfl,h0,rfl,rfl⟩
 case round=>
  obtain ⟨k,hk,rfl,hJs,hkb⟩:=hrel;have b1:=hkb.cell hBs;have b2:=hkb.cell2 hBn;by_cases hlt:k<m
  · obtain ⟨fn,tmps,assign,body,hy,hR⟩:=hY _ ⟨k,hlt⟩ wr.drew (hJ _ wr _ none hJs (zmy _ _) (fun r e=>by cases e)) (by rw[zmz hk];exact hlt);have hmin:min (3:Int) ((3*m-3*k:Nat):Int)=3:=(by omega);have htn:(3*(k:Int)+3).toNat-3*k=3:=(by omega);dsimp only at hy
    gi_wp2
    gi_region
    gi_wp2
    refine hR.mono ?_;rintro e W3 (⟨rfl,hJ3,hk3⟩ | ⟨rfl,hJx3⟩)
    · have hkb3:KB Bs Bn W W3:=hkb.trans (KB.trans ⟨rfl,rfl⟩ hk3);have b13:=hkb3.cell hBs;have b23:=hkb3.cell2 hBn
      gi_wp2
      go_roundw
      case rel=>exact ⟨k+1,by omega,by congr 1,by rw[<-zgs hlt];exact hJ3,hkb3⟩
      case measure=>simp[intOf];omega
    · gi_wp2
      refine bodyPost_ret (results_none rfl _ _ _) rfl ?_;exact ⟨⟨_,rfl⟩,.inr ⟨_,⟨k+1,by omega,(zgs hlt)⟩,hJx3⟩⟩
  · obtain rfl:k=m:=(by omega);rw[zmA]at hJs
    gi_wp2
    go_end0
    exact ⟨⟨_,rfl⟩,.inl ⟨_,rfl,hJs⟩⟩
theorem zld (n:Nat) (l Bs Bn:Nat) (A:Option Addr) (c:Nat) (J:List (Fin 0)->World->Prop) (W:World) (hBs:W.cell? ⟨Bs,0,none⟩=some (.slice A 0 c)) (h0:J [] W) :
    CallsIn Fence.wide n prog 142 #[.func (.yield l) #[] #[],.pointer (some ⟨Bs,0,none⟩),.pointer (some ⟨Bn,0,none⟩)] W fun e W'=>(∃v,e=.returned v)/\J [] W':=by
 refine callsIn_of_wp func142 rfl trivial ?_ rfl;simp only[ntmps142,List.size_toArray,List.length_cons,List.length_nil,Nat.reduceAdd,Nat.reduceSub,Array.replicate_succ,Array.replicate_zero,List.push_toArray,List.append_toArray,List.nil_append,List.cons_append]
 gi_wp2
 gi_loopw [4] (fun i wr=>i=.int .i64 0/\J [] wr/\wr.cell? ⟨Bs,0,none⟩=some (.slice A 0 c)) (fun _ _=>0)
 case atStart=>exact ⟨rfl,h0,hBs⟩
 case round=>
  obtain ⟨rfl,hJs,hbs⟩:=hrel
  gi_wp2
  go_end0
  exact ⟨⟨_,rfl⟩,hJs⟩
def chunkV (g:Nat) (k:Nat):Value:=.slice (some ⟨g,3*k,none⟩) 3 3
theorem zhN (n:Nat) (hn:1<=n) (Bs Bn g c m:Nat) (A:Option Addr) (hA:0<m->A=some ⟨g,0,none⟩) (hm:m<=100000) (hc:3*m<=c) (w:World) (hBs:Bs<w.heap.size) (hBn:Bn<w.heap.size)
    (h1:w.cell? ⟨Bs,0,none⟩=some (.slice A (3*m) c)) (h2:w.cell? ⟨Bn,0,none⟩=some (.int .i64 3)) :
    SeqStopsK Fence.wide n prog 142 #[.pointer (some ⟨Bs,0,none⟩),.pointer (some ⟨Bn,0,none⟩)] (fun x:Fin m=>#[chunkV g x.1]) (KB Bs Bn)
     (fun ys=>ys=List.finRange m) (fun pre=>∃k,k<=m/\pre=fins m k) m w:=fun l J Jx W hW hJ _ hY h0=>by
 have b1:=(hW.cell (p:=⟨Bs,0,none⟩) hBs).trans h1;have b2:=(hW.cell (p:=⟨Bn,0,none⟩) hBn).trans h2;by_cases h0m:m=0
 · subst h0m;exact (zld n l Bs Bn A c J W b1 h0).mono fun e W' ⟨he,hj⟩=>⟨he,.inl ⟨[],rfl,hj⟩⟩
 · have:=hA (by omega);subst this;exact zlc n hn l Bs Bn g c m hm hc J Jx hY W hJ b1 b2 h0
theorem zhO (A:Option Addr) (len c:Nat) (w:World) :
    Calls prog 84 #[.slice A len c,.int .i64 3] w fun e w'=>e=.returned (.func (.func 142) #[] #[.pointer (some ⟨w.heap.size,0,none⟩),.pointer (some ⟨w.heap.size+1,0,none⟩)])/\w'=(w.alloc (.cells #[.slice A len c] 89)).alloc (.cells #[.int .i64 3] 3):=by
 go_enter func84,ntmps84
 go_wp2;go_ret;exact ⟨rfl,rfl⟩
end
end Go.Proofs.YtaeiifngjglchaaGreatDoor
end
section
namespace Go.Proofs.YtaeiifngjglchaaGreatDoor
open Go.Proofs.Tryz
open Go.RowKit Go.Lib Tv Go.Sort Go.Shelf
section
attribute [local go_sem] Oper.semAt_some
def triAt (E:Int->Option Tm) (a b c:Int):Option Tri:=(E a).bind fun s=>(E b).bind fun p=>(E c).map fun o=>⟨s,p,o⟩
theorem zly {E:Int->Option Tm} {a b c:Int} (h:E a=none):triAt E a b c=none:=by unfold triAt;rw[h];rfl
theorem zlx {E:Int->Option Tm} {a b c:Int} {s:Tm} (h:E a=some s) (h2:E b=none):triAt E a b c=none:=by unfold triAt;rw[h,Option.bind_some,h2];rfl
theorem zlw {E:Int->Option Tm} {a b c:Int} {s p:Tm} (h:E a=some s) (h2:E b=some p) (h3:E c=none):triAt E a b c=none:=by unfold triAt;rw[h,Option.bind_some,h2,Option.bind_some,h3];rfl
theorem zjH {E:Int->Option Tm} {a b c:Int} {s p o:Tm} (h:E a=some s) (h2:E b=some p) (h3:E c=some o):triAt E a b c=some ⟨s,p,o⟩:=by unfold triAt;rw[h,Option.bind_some,h2,Option.bind_some,h3];rfl
theorem zoq (t:Tri) (h:SmlT t) (w:World) (ht:Lay w) :
    Calls prog 88 #[.agg (encTri t).toArray] w fun e w'=>e=.returned (.bool (!triT t))/\Below w.heap.size w w':=by
 have HI:=hid (zne t h _ (ht.below ((Below.refl w.heap.size w).alloc nL (.cells (encTri t).toArray 110))));obtain ⟨⟨k1,x1,e1⟩,⟨k2,x2,e2⟩,⟨k3,x3,e3⟩⟩:=t;generalize triT _=y at HI ⊢;unfold encTri encT at HI ⊢;simp only[List.cons_append,List.nil_append]at HI ⊢;go_enter func88,ntmps88
 go_wp2_with fail
 refine HI.out.mono ?_;rintro e w1 ⟨rfl,hb⟩;go_wp2;go_ret;exact ⟨rfl,((Below.refl w.heap.size w).alloc nL _).trans (hb.mono (by simp))⟩
theorem zmH:∀args w,(callFunc 88 args).run prog w=.ok (.enter 88 args) w:=enters_of func88 (by kernel_rfl) rfl
abbrev STri:={t:Tri // SmlT t}
def encST (x:STri):List Value:=encTri x.1
theorem zgA (x:STri):(encST x).length=9:=rfl
instance:Inhabited STri:=⟨⟨⟨⟨0,[],[]⟩,⟨0,[],[]⟩,⟨0,[],[]⟩⟩,by unfold SmlT Sml;simp⟩⟩
theorem zmV (fv:Value) (w:World):Calls prog 87 #[.slice none 0 0,fv] w fun e w'=>e=.returned (.bool false)/\w'=w:=by
 have hI:∀W:World,Calls prog 143 #[.slice none 0 0,fv] W fun e w'=>e=.returned (.int .i64 (-1))/\w'=W:=by
  intro W;go_enter func143,ntmps143
  go_wp2;refine wp_loop_rounds 1 ?_;rw[rounds_succ];go_wp2;go_ret;exact ⟨rfl,rfl⟩
 have HI:=hid hI;clear hI;go_enter func87,ntmps87
 go_wp2_with fail
 refine (HI.out _).mono ?_;rintro e w1 ⟨rfl,rfl⟩;go_wp2;go_ret;exact ⟨rfl,rfl⟩
theorem zjs (l:List Tri) (v:Value) (B:Nat) (w:World) (h:w.ownsRow B 110 9 v l.length (l.flatMap encTri)) (hl:l.length<=100000) (hs:∀t∈l,SmlT t) (ht:Lay w) :
    Calls prog 87 #[v,.func (.func 88) #[] #[]] w fun e w'=>e=.returned (.bool (l.any fun t=>!triT t))/\Below w.heap.size w w':=by
 rcases zaf h with ⟨rfl,hn⟩ | ⟨g,cap,rfl,hB,hg,hc,hcell⟩
 · obtain rfl:l=[]:=List.eq_nil_of_length_eq_zero hn;refine (zmV _ w).mono ?_;rintro e w' ⟨rfl,rfl⟩;exact ⟨rfl,br⟩
 · obtain ⟨zs,hz⟩:∃zs:List STri,zs.map Subtype.val=l:=⟨l.pmap (fun t h=>⟨t,h⟩) hs,by rw[List.map_pmap];simp⟩;have hzl:zs.length=l.length:=(by rw[<-hz,List.length_map]);have hfl:l.flatMap encTri=zs.flatMap encST:=by rw[<-hz,List.flatMap_map];rfl
   have:=AnyQ.slices_ContainsFunc (α:=STri) (P:=prog) Tryz.contTr 9 Tryz.isAgg110 Tryz.sizeOf110 encST zgA (fun x=>!triT x.1) 88 #[] zmH g 0 l.length cap zs w
    (fun W x hW=>(zoq x.1 x.2 W (ht.below hW)).mono fun e w' h=>⟨h.1,hW.trans (h.2.mono hW.size)⟩) (by omega) (by omega) hg (fun j hj i v hi=>by
     have hi9:i<9:=by
      have:=(List.getElem?_eq_some_iff.1 hi).1;exact this
     rw[Nat.zero_add];refine hcell (j*9+i) v ?_;rw[hfl,zaH zgA zs (j*9+i) (by omega),show (j*9+i) / 9=j from by omega,show (j*9+i) % 9=i from by omega,List.getD_eq_getElem?_getD];rw[getElem!_pos zs j hj]at hi;rw[List.getElem?_eq_getElem hj];exact hi)
   rw[List.take_of_length_le (by omega)]at this;have he:(zs.any fun x=>!triT x.1)=l.any fun t=>!triT t:=(by rw[<-hz,List.any_map];rfl);rw[he]at this;exact this
end
end Go.Proofs.YtaeiifngjglchaaGreatDoor
end
section
namespace Go.Proofs.YtaeiifngjglchaaGreatDoor
open Go.Proofs.Tryz
open Go.RowKit Go.Lib Tv Go.Sort Go.Shelf
open Go.Proofs.YtaeiifngjglchaaGreatDoorW.PrintLast
section
attribute [local go_sem] Oper.semAt_some
def exE (d:List ByteArray) (id:Int):Option Tm:=shownV (Fd.extZ d id).data.toList
theorem zlH (s:ByteArray):str s.data.toList=s:=by unfold str;simp
theorem zdC (d:List ByteArray) (id:Int) (w:World) (h4:4<=w.heap.size) (ht:Lay w) (hd:∀s∈d,s.size<=40000) :
    Calls prog 85 #[.string (Fd.extZ d id)] w fun e w'=>Below w.heap.size w w'/\ShAns (exE d id) e:=by
 have:=zg8 (Fd.extZ d id).data.toList w h4 ht (by
  unfold Fd.extZ;split
  · have:=hd _ (List.getElem_mem (l:=d) (n:=(id-1).toNat) (by omega));simpa using this
  · decide)
 rw[zlH]at this;exact this
def chT (d:List ByteArray) (row:List Int) (k:Nat):Option Tri:=triAt (exE d) (row.getD (3*k) 0) (row.getD (3*k+1) 0) (row.getD (3*k+2) 0)
def tsO (d:List ByteArray) (row:List Int) {m:Nat} (pre:List (Fin m)):List Tri:=pre.filterMap fun x=>chT d row x.1
def allSome (d:List ByteArray) (row:List Int) {m:Nat} (pre:List (Fin m)):Prop:=∀x∈pre,chT d row x.1≠none
theorem zkT {d:List ByteArray} {id:Int} {t:Tm} (h:exE d id=some t):tmT t=true:=((zew _ _).1 h).1
theorem zlv {d:List ByteArray} {a b c:Int} {t:Tri} (h:triAt (exE d) a b c=some t):tmT t.s=true/\tmT t.p=true/\tmT t.o=true:=by
 unfold triAt at h;cases h1:exE d a with
 | none=>rw[h1]at h;cases h
 | some s=>
  rw[h1,Option.bind_some]at h;cases h2:exE d b with
  | none=>rw[h2]at h;cases h
  | some p=>
   rw[h2,Option.bind_some]at h;cases h3:exE d c with
   | none=>rw[h3]at h;cases h
   | some o=>
    rw[h3]at h;cases h
    exact ⟨zkT h1,zkT h2,zkT h3⟩
theorem znp {d:List ByteArray} {row:List Int} {m:Nat} {pre:List (Fin m)} {t:Tri} (h:t∈tsO d row pre):SmlT t:=by
 unfold tsO at h;rw[List.mem_filterMap]at h;obtain ⟨x,_,hx⟩:=h;have:=zlv hx;exact ⟨VTm.sml ⟨_,this.1⟩,VTm.sml ⟨_,this.2.1⟩,VTm.sml ⟨_,this.2.2⟩⟩
theorem zi0 {P:Program} {c:Code} {K:Act->World->Prop} {Q:Exit->Act->World->Prop} {a:Act} {w:World} (h:c.wp P (Exit.then K fun _ _ _=>False) a w):c.wp P (Exit.then K Q) a w:=
 Code.wp_mono (fun e a w h=>by cases e<;>first | exact h | exact h.elim) h
theorem results_cc {P:Program} {fn:Func} {p q t u:Nat} (h:fn.results=#[.cell p t,.cell q u]) {tmps:Array Value} {w:World} {b1 b2:Nat} {x y:Value}
    (hp:tmps.getD p undef=.pointer (some ⟨b1,0,none⟩)) (hq:tmps.getD q undef=.pointer (some ⟨b2,0,none⟩))
    (h1:(loadVar t ⟨b1,0,none⟩).run P w=.ok x w) (h2:(loadVar u ⟨b2,0,none⟩).run P w=.ok y w):(results fn tmps).run P w=.ok (.tuple #[x,y]) w:=by
 have hp':tmps[p]?.getD undef=.pointer (some ⟨b1,0,none⟩):=(by simpa using hp);have hq':tmps[q]?.getD undef=.pointer (some ⟨b2,0,none⟩):=(by simpa using hq);simp[results,h,hp',hq',asAddr,h1,h2]
theorem zbs {β:Type} (b:Nat) (cs:Array Value) (t:TypeId):Own (fun (_:β) W=>W.heap[b]?=some (.cells cs t (0,0))):=by
 intro s W W' row hs hg hr;rw[<-hs];refine hg.block b (Array.getElem?_eq_some_iff.1 hs).1 ?_;intro e;obtain ⟨o,ho,hc⟩:=hr b e.symm;rw[hs]at ho;cases ho
 cases hc
theorem za2 {W:World} {b:Nat} {x:Obj} (o:Obj) (h:W.heap[b]?=some x):(W.alloc o).heap[b]?=some x:=(Below.heap_alloc W o b (Array.getElem?_eq_some_iff.1 h).1).trans h
theorem al_at {W:World} {b:Nat} (o:Obj) (h:W.heap.size=b):(W.alloc o).heap[b]?=some o:=by subst h;exact World.alloc_heap_new W o
theorem zbp {W W':World} (h:Below W.heap.size W W'):KeepsOthers W W':=⟨h.size,fun j _ hj _=>(h.block j (Array.getElem?_eq_some_iff.1 hj).1).trans hj⟩
theorem zbc {W:World} {b ty:Nat} {u:Value} (v:Value) (h:W.heap[b]?=some (.cells #[u] ty (0,0))):(W.setCell ⟨b,0,none⟩ v).heap[b]?=some (.cells #[v] ty (0,0)):=Boxed.set v h
def TrAns (w:World) (d:List ByteArray) (row:List Int) (m:Nat) (e:Ending) (w':World):Prop:=
 ((∃(ts:List Tri) (v:Value),e=.returned (.tuple #[v,.bool true])/\(List.range m).map (chT d row)=ts.map some/\(∀t∈ts,triT t=true)/\w'.ownsRow w.heap.size 110 9 v ts.length (ts.flatMap encTri))\/
  ((¬∃ts:List Tri,(List.range m).map (chT d row)=ts.map some/\∀t∈ts,triT t=true)/\∃v,e=.returned (.tuple #[v,.bool false])))/\Below w.heap.size w w'
theorem zh4 (t:Nat) (w:World) (b:Nat) (v:Value) (hu:∀w,(isAgg t).run prog w=.ok false w) (h:w.cell? ⟨b,0,none⟩=some v):(loadVar t ⟨b,0,none⟩).run prog w=.ok v w:=by
 simp[loadVar,go_sem,hu,h]
theorem zjG {w wz:World} {D':Nat} {x y:Value} {a:Act} {R:Ending->World->Prop} (hdef:a.defers=[{ target:=.collected D',args:=#[] }]) (hp:a.tmps.getD 4 undef=.pointer (some ⟨w.heap.size+1,0,none⟩)) (hq:a.tmps.getD 5 undef=.pointer (some ⟨w.heap.size+2,0,none⟩))
    (e1:wz.heap[w.heap.size+1]?=some (.cells #[x] 36 (0,0))) (e2:wz.heap[w.heap.size+2]?=some (.cells #[y] 4 (0,0))) (e3:wz.heap[D']?=some (.deferred (some []))) (hR:R (.returned (.tuple #[x,y])) (wz.putObj D' (.deferred none))) :
    bodyPostM Fence.wide 8 prog f34 R .ret a wz:=by
 obtain ⟨tm,df⟩:=a;simp only at hdef hp hq;subst hdef;refine ⟨by simp,.inl ⟨_,_,rfl,run_takeDeferred e3,?_⟩⟩;have k1:(wz.putObj D' (.deferred none)).heap[w.heap.size+1]?=some (.cells #[x] 36 (0,0)):=(World.putObj_heap_other (fun e=>by rw[e]at e1;rw[e3]at e1;cases e1)).trans e1;have k2:(wz.putObj D' (.deferred none)).heap[w.heap.size+2]?=some (.cells #[y] 4 (0,0)):=(World.putObj_heap_other (fun e=>by rw[e]at e2;rw[e3]at e2;cases e2)).trans e2;exact ⟨_,results_cc rfl hp hq (zh4 _ _ _ _ Tryz.isAgg36 (by rw[cell_of_heap k1];rfl)) (zh4 _ _ _ _ Tryz.isAgg4 (by rw[cell_of_heap k2];rfl)),hR⟩
theorem zjF {d:List ByteArray} {row:List Int} {m:Nat}:∀{pre:List (Fin m)},allSome d row pre->(pre.map fun x=>chT d row x.1)=(tsO d row pre).map some
 | [],_=>rfl
 | x::pre,h=>by
  obtain ⟨t,ht⟩:=Option.ne_none_iff_exists'.1 (h x List.mem_cons_self);have ih:=zjF (pre:=pre) fun y hy=>h y (List.mem_cons_of_mem _ hy);unfold tsO at ih ⊢;rw[List.map_cons,List.filterMap_cons,ht,ih];rfl
theorem zof {β:Type} (m:Nat) (f:Nat->β):((List.finRange m).map fun x=>f x.1)=(List.range m).map f:=by
 apply List.ext_getElem
 · simp
 · intro i h1 h2;simp
theorem zdz {β:Type} {a b:List β} (h:a.map some=b.map some):a=b:=by
 induction a generalizing b with
 | nil=>cases b with
  | nil=>rfl
  | cons _ _=>cases h
 | cons x a ih=>cases b with
  | nil=>cases h
  | cons y b=>
   rw[List.map_cons,List.map_cons]at h;injection h with h1 h2;injection h1 with h1;rw[h1,ih h2]
theorem zeZ (D:Nat) (d:List ByteArray) (A:Option Addr) (c m:Nat) (row:List Int) (w:World) (h4:4<=w.heap.size) (ht:Lay w) (hD:Fd.Dic w D d) (hd:∀s∈d,s.size<=40000)
    (hrow:w.ownsRow 0 3 1 (.slice A (3*m) c) (3*m) (row.map (Value.int .i64))) (hm:m<=1000) :
    Calls prog 34 #[.pointer (some ⟨D,0,none⟩),.slice A ((3*m:Nat)) c] w (TrAns w d row m):=by
 have hA:∃g,(0<m->A=some ⟨g,0,none⟩)/\(0<m->g<w.heap.size)/\3*m<=c/\∀j,j<3*m->w.cell? ⟨g,j,none⟩=some (.int .i64 (row.getD j 0)):=by
  have hrl:row.length=3*m:=(by have:=hrow.1;simpa using this);rcases zaf hrow with ⟨h1,h2⟩ | ⟨g,cap,h1,hB,hg,hc,hcell⟩
  · exact ⟨0,by omega,by omega,by omega,by omega⟩
  · injection h1 with h1 h2 h3;refine ⟨g,fun _=>h1,fun _=>hg,by omega,fun j hj=>hcell j _ ?_⟩;rw[List.getElem?_map,List.getElem?_eq_getElem (by omega),List.getD_eq_getElem?_getD,List.getElem?_eq_getElem (by omega)];rfl
 obtain ⟨g,hA,hg,hc,hcell⟩:=hA;have HROW:=hid hcell;have HA:=hid hA;have HG:=hid hg;have HDI:=hid hD;have HLA:=hid ht;have HCH:=hid fun W=>zhO A (3*m) c W;clear hrow hcell hA hg hD ht;refine (callsIn_wide (n:=8)).1 ?_;refine callsIn_of_wp_marks func34 rfl trivial ?_ rfl;simp only[ntmps34,List.size_toArray,List.length_cons,List.length_nil,Nat.reduceAdd,Nat.reduceSub,Array.replicate_succ,Array.replicate_zero,List.push_toArray,List.append_toArray,List.nil_append,List.cons_append];refine wpIn_wide.2 ?_;go_wp2_with fail
 refine (HCH.out _).mono ?_;rintro e w1 ⟨rfl,rfl⟩;go_wp2;obtain ⟨W0,hW0⟩:∃W0,((((((w.alloc (.cells #[.pointer (some ⟨D,0,none⟩)] 86)).alloc (.cells #[.slice none 0 0] 36)).alloc (.cells #[.bool false] 4)).alloc (.cells #[.slice none 0 0] 36)).alloc (.cells #[.slice A (3*m) c] 89)).alloc (.cells #[.int .i64 3] 3))=W0:=⟨_,rfl⟩;have hsz:W0.heap.size=w.heap.size+6:=(by rw[<-hW0];simp);have hB0:Below w.heap.size w W0:=by
  rw[<-hW0];exact ((((((Below.refl _ w).alloc nL _).alloc (by simp) _).alloc (by simp;omega) _).alloc (by simp;omega) _).alloc (by simp;omega) _).alloc (by simp;omega) _
 have h0:W0.heap[w.heap.size]?=some (.cells #[.pointer (some ⟨D,0,none⟩)] 86 (0,0)):=(by rw[<-hW0];exact za2 _ (za2 _ (za2 _ (za2 _ (za2 _ (al_at _ (by simp)))))));have h1:W0.heap[w.heap.size+1]?=some (.cells #[.slice none 0 0] 36 (0,0)):=(by rw[<-hW0];exact za2 _ (za2 _ (za2 _ (za2 _ (al_at _ (by simp))))));have h2:W0.heap[w.heap.size+2]?=some (.cells #[.bool false] 4 (0,0)):=(by rw[<-hW0];exact za2 _ (za2 _ (za2 _ (al_at _ (by simp)))));have h3:W0.heap[w.heap.size+3]?=some (.cells #[.slice none 0 0] 36 (0,0)):=(by rw[<-hW0];exact za2 _ (za2 _ (al_at _ (by simp))));have h4':W0.heap[w.heap.size+4]?=some (.cells #[.slice A (3*m) c] 89 (0,0)):=(by rw[<-hW0];exact za2 _ (al_at _ (by simp)));have h5:W0.heap[w.heap.size+5]?=some (.cells #[.int .i64 3] 3 (0,0)):=(by rw[<-hW0];exact al_at _ (by simp));rw[hW0];have hH:∃H,w.heap.size=H:=⟨_,rfl⟩;simp only[show w.heap.size+1+1=w.heap.size+2 from rfl,show w.heap.size+2+1=w.heap.size+3 from rfl,show w.heap.size+3+1=w.heap.size+4 from rfl,show w.heap.size+4+1=w.heap.size+5 from rfl];have hstops:=zhN 7 (by omega) (w.heap.size+4) (w.heap.size+5) g c m A HA.out (by omega) hc W0 (by omega) (by omega) (by rw[cell_of_heap h4'];rfl) (by rw[cell_of_heap h5];rfl);have HW0:=hid hW0;clear hW0 hH;refine wpIn_wide (n:=8).1 ?_
 refine wpIn_rangeFunc_ownF (F:=Fence.wide) (w0:=W0) rfl (by omega) (gf:=142) (lb:=#[.pointer (some ⟨w.heap.size+4,0,none⟩),.pointer (some ⟨w.heap.size+5,0,none⟩)]) rfl trivial (enters_of func142 (by kernel_rfl) rfl)
  hstops (fun h k=>h.trans k) (fun W l o o' hl hh hc hw=>⟨World.putObj_heap_other (by omega),World.putObj_heap_other (by omega)⟩) br (fun _=>rfl)
  (fun pre W=>((∃v,Boxed W (w.heap.size+3) 36 v/\W.ownsRow w.heap.size 110 9 v (tsO d row pre).length ((tsO d row pre).flatMap encTri)/\allSome d row pre)/\W.heap[w.heap.size]?=some (.cells #[.pointer (some ⟨D,0,none⟩)] 86 (0,0))/\W.heap[w.heap.size+1]?=some (.cells #[.slice none 0 0] 36 (0,0))/\W.heap[w.heap.size+2]?=some (.cells #[.bool false] 4 (0,0))/\W.heap[w.heap.size+5]?=some (.cells #[.int .i64 3] 3 (0,0))/\W.heap[w.heap.size+4]?=some (.cells #[.slice A (3*m) c] 89 (0,0)))/\Below w.heap.size w W)
  (fun cd pre W=>(cd=.ret/\¬allSome d row pre/\W.heap[w.heap.size+1]?=some (.cells #[.slice none 0 0] 36 (0,0))/\W.heap[w.heap.size+2]?=some (.cells #[.bool false] 4 (0,0)))/\Below w.heap.size w W)
  (OwnFrom.and (OwnFrom.and (Own.from (holdsRow_own w.heap.size (w.heap.size+3) 36 110 9 (fun pre=>(tsO d row pre).length) (fun pre=>(tsO d row pre).flatMap encTri) (fun pre _=>allSome d row pre)) _) (OwnFrom.and (Own.from (zbs _ _ _) _) (OwnFrom.and (Own.from (zbs _ _ _) _) (OwnFrom.and (Own.from (zbs _ _ _) _) (OwnFrom.and (Own.from (zbs _ _ _) _) (Own.from (zbs _ _ _) _)))))) (ownFrom_below nL (by omega)))
  (fun cd=>OwnFrom.and (OwnFrom.and (ownFrom_pure _ (fun _=>cd=.ret)) (OwnFrom.and (ownFrom_pure _ (fun pre=>¬allSome d row pre)) (OwnFrom.and (Own.from (zbs _ _ _) _) (Own.from (zbs _ _ _) _)))) (ownFrom_below nL (by omega)))
  ⟨⟨⟨_,h3,World.ownsRow_nil _ _ _ _,fun x hx=>by cases hx⟩,h0,h1,h2,h5,h4'⟩,hB0⟩
  (fun x=>{ tmps:=#[.pointer (some ⟨D,0,none⟩),.slice A (3*m) c,.pointer (some ⟨w.heap.size,0,none⟩),undef,.pointer (some ⟨w.heap.size+1,0,none⟩),.pointer (some ⟨w.heap.size+2,0,none⟩),.pointer (some ⟨w.heap.size+3,0,none⟩),chunkV g x.1,undef,undef,undef,undef,undef,.slice A (3*m) c,.func (.func 142) #[] #[.pointer (some ⟨w.heap.size+4,0,none⟩),.pointer (some ⟨w.heap.size+5,0,none⟩)],chunkV g x.1,undef,undef,undef,undef,undef,undef,undef,undef,undef,undef,undef,undef,undef,undef,undef,undef,undef,undef,undef,undef,undef,undef,undef,undef,undef,undef,undef,undef,undef,undef,undef,undef,undef,undef],defers:=[] }) ?assign ?body ?done ?stop
 case assign=>
  intro l x W K hK
  gi_wp2
  exact hK
 case body=>
  rintro l pre x W ⟨⟨⟨v,hbx,hown,hall⟩,hd0,hd1,hd2,hd5,hd4⟩,hB⟩ hlen;obtain ⟨Av,cv,rfl⟩:=Fd.zac hown;have HR4:=hid hd4;have hlt5:=(Array.getElem?_eq_some_iff.1 hd5).1;have HR5:=hid hd5;have hxm:=x.2;obtain ⟨xk,hxk⟩:∃xk,x.1=xk:=⟨_,rfl⟩;rw[hxk]at hxm ⊢;have hrow:∀wr,Below W.heap.size W wr->∀j,j<3->wr.cell? ⟨g,3*xk+j,none⟩=some (.int .i64 (row.getD (3*xk+j) 0)):=by
   intro wr hwr j hj;have h1:=(hB.cell (p:=⟨g,3*xk+j,none⟩) (HG.out (by omega))).trans (HROW.out (3*xk+j) (by omega));exact zaa h1 hwr
  have HRW:=hid hrow;have hdic:∀wr,Below W.heap.size W wr->Fd.Dic wr D d:=fun wr hwr=>HDI.out.below (hB.trans (hwr.mono hB.size));have hlay:∀wr,Below W.heap.size W wr->Lay wr:=fun wr hwr=>HLA.out.below (hB.trans (hwr.mono hB.size));have HDC:=hid hdic;have HLY:=hid hlay;have HS3:=hid (show chT d row xk=triAt (exE d) (row.getD (3*xk+0) 0) (row.getD (3*xk+1) 0) (row.getD (3*xk+2) 0) from rfl);have HXK:=hid hxk;have HOWN:=hid hown;have HBX:=hid hbx;have HALL:=hid hall;have HB:=hid hB;have hsW:=hB.size;have HDD:Hid (∀wr,Below W.heap.size W wr->wr.cell? ⟨w.heap.size,0,none⟩=some (.pointer (some ⟨D,0,none⟩))):=fun wr hwr=>zaa (by rw[cell_of_heap hd0];rfl) hwr;have HR1:=hid hd1;have HR2:=hid hd2;have HR0:=hid hd0;clear hrow hdic hlay hxk hown hbx hall hB hd0 hd1 hd2 hd5 hd4;unfold chunkV
  gi_wp2
  gi_loopw [18] (fun i wr=>∃k:Nat,k<=3/\i=.int .i64 k/\Below W.heap.size W wr/\∃a0 a1 a2:Tm,A9 wr W.heap.size 154 (.int .i64 a0.k) (.string (str a0.x)) (.string (str a0.e)) (.int .i64 a1.k) (.string (str a1.x)) (.string (str a1.e)) (.int .i64 a2.k) (.string (str a2.x)) (.string (str a2.e))/\(0<k->exE d (row.getD (3*xk+0) 0)=some a0)/\(1<k->exE d (row.getD (3*xk+1) 0)=some a1)/\(2<k->exE d (row.getD (3*xk+2) 0)=some a2)) (fun i _=>3-(RowKit.intOf i).toNat)
  case atStart=>exact ⟨0,by omega,rfl,br.alloc nL _,⟨0,[],[]⟩,⟨0,[],[]⟩,⟨0,[],[]⟩,A9.new _ _ _ _ _ _ _ _ _ _ _,by omega,by omega,by omega⟩
  case round=>
   obtain ⟨k,hk,rfl,hbw,a0,a1,a2,h9,q0,q1,q2⟩:=hrel;rcases (show k=0\/k=1\/k=2\/k=3 by omega) with rfl | rfl | rfl | rfl
   · have hc:=HRW.out wr hbw 0 (by omega);have hdd:=HDD.out wr hbw;have HQ0:=hid q0;have HQ1:=hid q1;have HQ2:=hid q2;clear q0 q1 q2;generalize hr:row.getD (3*xk+0) 0=r at hc;rw[Nat.add_zero]at hc;have HR:=hid hr;clear hr;have HE:=hid (Fd.zdV D d r wr (HDC.out wr hbw));have HSH:=hid (zdC d r wr (by have:=hbw.size;omega) (HLY.out wr hbw) hd);have HBW:=hid hbw;have H9:=hid h9;have h9lt:=h9.lt;have hbs:=hbw.size;clear hbw h9;generalize Fd.extZ d r=s at HE HSH
     gi_wp2_with fail
     refine ⟨trivial,?_⟩;refine (CallsIn.inRound l (callsIn_wide.2 HE.out)).mono ?_;rintro e w2 ⟨rfl,rfl⟩
     gi_wp2_with fail
     refine ⟨trivial,?_⟩;refine (CallsIn.inRound l (callsIn_wide.2 HSH.out)).mono ?_;clear hc hdd;rintro e w2 ⟨hb2,⟨⟨tk,tx,te⟩,hy,rfl⟩ | ⟨⟨tk,tx,te⟩,hy,rfl⟩⟩
     · have HY:=hid hy;have hB2:=HBW.out.trans (hb2.mono HBW.out.size);obtain ⟨wd,hwd⟩:∃wd,w2.alloc (.cells #[.int .i64 tk,.string (str tx),.string (str te)] 62)=wd:=⟨_,rfl⟩;have hbd:Below w2.heap.size w2 wd:=(by rw[<-hwd];exact br.alloc nL _);have hnd:wd.heap.size=w2.heap.size+1:=(by rw[<-hwd];simp);have t3d:T3 wd w2.heap.size (.int .i64 tk) (.string (str tx)) (.string (str te)):=(by rw[<-hwd];exact T3.new _ _ _ _);have h9d:=(H9.out.fr (Fr.of_below hb2 fun _=>False) fun h=>h).fr (Fr.of_below hbd fun _=>False) fun h=>h;have HBD:=hid (hB2.trans (hbd.mono hB2.size));have c0:=t3d.c0;have c1:=t3d.c1;have c2:=t3d.c2;have d0:=h9d.c0;have d1:=h9d.c1;have d2:=h9d.c2;have df:=h9d.f;have H9D:=hid h9d;have h9l2:=h9d.lt;clear hy hB2 hbd t3d h9d hb2 HE HSH H9 HBW hbs;unfold encT
       gi_wp2
       go_roundw
       case rel=>exact ⟨1,by omega,rfl,((HBD.out.setCell (p:=⟨W.heap.size,0,none⟩) nL _).setCell (p:=⟨W.heap.size,1,none⟩) nL _).setCell (p:=⟨W.heap.size,2,none⟩) nL _,⟨tk,tx,te⟩,a1,a2,H9D.out.put0 _ _ _,fun _=>HY.out,fun h=>absurd h (by omega),fun h=>absurd h (by omega)⟩
       case measure=>decide
     · have HN:=hid hy;have hB2:=HBW.out.trans (hb2.mono HBW.out.size);obtain ⟨wd,hwd⟩:∃wd,w2.alloc (.cells #[.int .i64 tk,.string (str tx),.string (str te)] 62)=wd:=⟨_,rfl⟩;have hbd:Below w2.heap.size w2 wd:=(by rw[<-hwd];exact br.alloc nL _);have HBD:=hid (hB2.trans (hbd.mono hB2.size));have g1:wd.heap[w.heap.size+1]?=some (.cells #[.slice none 0 0] 36 (0,0)):=(HBD.out.block _ (by omega)).trans HR1.out;have g2:wd.heap[w.heap.size+2]?=some (.cells #[.bool false] 4 (0,0)):=(HBD.out.block _ (by omega)).trans HR2.out;have c1:wd.cell? ⟨w.heap.size+1,0,none⟩=some (.slice none 0 0):=(by rw[cell_of_heap g1];rfl);have c2:wd.cell? ⟨w.heap.size+2,0,none⟩=some (.bool false):=(by rw[cell_of_heap g2];rfl);have f1:wd.frozen? ⟨w.heap.size+1,0,none⟩=false:=frozen_of_heap g1 0;have f2:wd.frozen? ⟨w.heap.size+2,0,none⟩=false:=frozen_of_heap g2 0;have G1:=hid g1;have G2:=hid g2;have HNO:Hid (chT d row x.1=none):=by
        rw[HXK.out,HS3.out];exact zly (by rw[HR.out];exact HN.out)
       clear hy hB2 hbd g1 g2 hb2 HE HSH H9 HBW hbs;unfold encT
       gi_wp2
       refine ⟨((zbp HBD.out).trans (KeepsOthers.setCell _ _ _)).trans (KeepsOthers.setCell _ _ _),⟨rfl,fun h=>h x (List.mem_append.2 (.inr List.mem_cons_self)) HNO.out,?_,?_⟩,?_⟩
       · rw[Below.heap_setCell _ _ _ _ (by show w.heap.size+1≠w.heap.size+2;omega)];exact zbc _ G1.out
       · exact zbc _ (by rw[Below.heap_setCell _ _ _ _ (by show w.heap.size+2≠w.heap.size+1;omega)];exact G2.out)
       · exact ((HB.out.trans (HBD.out.mono HB.out.size)).setCell (p:=⟨w.heap.size+1,0,none⟩) (by show w.heap.size<=w.heap.size+1;omega) _).setCell (p:=⟨w.heap.size+2,0,none⟩) (by show w.heap.size<=w.heap.size+2;omega) _
   · have hc:=HRW.out wr hbw 1 (by omega);have hdd:=HDD.out wr hbw;have HQ0:=hid q0;have HQ1:=hid q1;have HQ2:=hid q2;clear q0 q1 q2;generalize hr:row.getD (3*xk+1) 0=r at hc;have HR:=hid hr;clear hr;have HE:=hid (Fd.zdV D d r wr (HDC.out wr hbw));have HSH:=hid (zdC d r wr (by have:=hbw.size;omega) (HLY.out wr hbw) hd);have HBW:=hid hbw;have H9:=hid h9;have h9lt:=h9.lt;have hbs:=hbw.size;clear hbw h9;generalize Fd.extZ d r=s at HE HSH
     gi_wp2_with fail
     refine ⟨trivial,?_⟩;refine (CallsIn.inRound l (callsIn_wide.2 HE.out)).mono ?_;rintro e w2 ⟨rfl,rfl⟩
     gi_wp2_with fail
     refine ⟨trivial,?_⟩;refine (CallsIn.inRound l (callsIn_wide.2 HSH.out)).mono ?_;clear hc hdd;rintro e w2 ⟨hb2,⟨⟨tk,tx,te⟩,hy,rfl⟩ | ⟨⟨tk,tx,te⟩,hy,rfl⟩⟩
     · have HY:=hid hy;have hB2:=HBW.out.trans (hb2.mono HBW.out.size);obtain ⟨wd,hwd⟩:∃wd,w2.alloc (.cells #[.int .i64 tk,.string (str tx),.string (str te)] 62)=wd:=⟨_,rfl⟩;have hbd:Below w2.heap.size w2 wd:=(by rw[<-hwd];exact br.alloc nL _);have hnd:wd.heap.size=w2.heap.size+1:=(by rw[<-hwd];simp);have t3d:T3 wd w2.heap.size (.int .i64 tk) (.string (str tx)) (.string (str te)):=(by rw[<-hwd];exact T3.new _ _ _ _);have h9d:=(H9.out.fr (Fr.of_below hb2 fun _=>False) fun h=>h).fr (Fr.of_below hbd fun _=>False) fun h=>h;have HBD:=hid (hB2.trans (hbd.mono hB2.size));have c0:=t3d.c0;have c1:=t3d.c1;have c2:=t3d.c2;have d0:=h9d.c3;have d1:=h9d.c4;have d2:=h9d.c5;have df:=h9d.f;have H9D:=hid h9d;have h9l2:=h9d.lt;clear hy hB2 hbd t3d h9d hb2 HE HSH H9 HBW hbs;unfold encT
       gi_wp2
       go_roundw
       case rel=>exact ⟨2,by omega,rfl,((HBD.out.setCell (p:=⟨W.heap.size,3,none⟩) nL _).setCell (p:=⟨W.heap.size,4,none⟩) nL _).setCell (p:=⟨W.heap.size,5,none⟩) nL _,a0,⟨tk,tx,te⟩,a2,H9D.out.put1 _ _ _,fun _=>HQ0.out (by omega),fun _=>HY.out,fun h=>absurd h (by omega)⟩
       case measure=>decide
     · have HN:=hid hy;have hB2:=HBW.out.trans (hb2.mono HBW.out.size);obtain ⟨wd,hwd⟩:∃wd,w2.alloc (.cells #[.int .i64 tk,.string (str tx),.string (str te)] 62)=wd:=⟨_,rfl⟩;have hbd:Below w2.heap.size w2 wd:=(by rw[<-hwd];exact br.alloc nL _);have HBD:=hid (hB2.trans (hbd.mono hB2.size));have g1:wd.heap[w.heap.size+1]?=some (.cells #[.slice none 0 0] 36 (0,0)):=(HBD.out.block _ (by omega)).trans HR1.out;have g2:wd.heap[w.heap.size+2]?=some (.cells #[.bool false] 4 (0,0)):=(HBD.out.block _ (by omega)).trans HR2.out;have c1:wd.cell? ⟨w.heap.size+1,0,none⟩=some (.slice none 0 0):=(by rw[cell_of_heap g1];rfl);have c2:wd.cell? ⟨w.heap.size+2,0,none⟩=some (.bool false):=(by rw[cell_of_heap g2];rfl);have f1:wd.frozen? ⟨w.heap.size+1,0,none⟩=false:=frozen_of_heap g1 0;have f2:wd.frozen? ⟨w.heap.size+2,0,none⟩=false:=frozen_of_heap g2 0;have G1:=hid g1;have G2:=hid g2;have HNO:Hid (chT d row x.1=none):=by
        rw[HXK.out,HS3.out];exact zlx (HQ0.out (by omega)) (by rw[HR.out];exact HN.out)
       clear hy hB2 hbd g1 g2 hb2 HE HSH H9 HBW hbs;unfold encT
       gi_wp2
       refine ⟨((zbp HBD.out).trans (KeepsOthers.setCell _ _ _)).trans (KeepsOthers.setCell _ _ _),⟨rfl,fun h=>h x (List.mem_append.2 (.inr List.mem_cons_self)) HNO.out,?_,?_⟩,?_⟩
       · rw[Below.heap_setCell _ _ _ _ (by show w.heap.size+1≠w.heap.size+2;omega)];exact zbc _ G1.out
       · exact zbc _ (by rw[Below.heap_setCell _ _ _ _ (by show w.heap.size+2≠w.heap.size+1;omega)];exact G2.out)
       · exact ((HB.out.trans (HBD.out.mono HB.out.size)).setCell (p:=⟨w.heap.size+1,0,none⟩) (by show w.heap.size<=w.heap.size+1;omega) _).setCell (p:=⟨w.heap.size+2,0,none⟩) (by show w.heap.size<=w.heap.size+2;omega) _
   · have hc:=HRW.out wr hbw 2 (by omega);have hdd:=HDD.out wr hbw;have HQ0:=hid q0;have HQ1:=hid q1;have HQ2:=hid q2;clear q0 q1 q2;generalize hr:row.getD (3*xk+2) 0=r at hc;have HR:=hid hr;clear hr;have HE:=hid (Fd.zdV D d r wr (HDC.out wr hbw));have HSH:=hid (zdC d r wr (by have:=hbw.size;omega) (HLY.out wr hbw) hd);have HBW:=hid hbw;have H9:=hid h9;have h9lt:=h9.lt;have hbs:=hbw.size;clear hbw h9;generalize Fd.extZ d r=s at HE HSH
     gi_wp2_with fail
     refine ⟨trivial,?_⟩;refine (CallsIn.inRound l (callsIn_wide.2 HE.out)).mono ?_;rintro e w2 ⟨rfl,rfl⟩
     gi_wp2_with fail
     refine ⟨trivial,?_⟩;refine (CallsIn.inRound l (callsIn_wide.2 HSH.out)).mono ?_;clear hc hdd;rintro e w2 ⟨hb2,⟨⟨tk,tx,te⟩,hy,rfl⟩ | ⟨⟨tk,tx,te⟩,hy,rfl⟩⟩
     · have HY:=hid hy;have hB2:=HBW.out.trans (hb2.mono HBW.out.size);obtain ⟨wd,hwd⟩:∃wd,w2.alloc (.cells #[.int .i64 tk,.string (str tx),.string (str te)] 62)=wd:=⟨_,rfl⟩;have hbd:Below w2.heap.size w2 wd:=(by rw[<-hwd];exact br.alloc nL _);have hnd:wd.heap.size=w2.heap.size+1:=(by rw[<-hwd];simp);have t3d:T3 wd w2.heap.size (.int .i64 tk) (.string (str tx)) (.string (str te)):=(by rw[<-hwd];exact T3.new _ _ _ _);have h9d:=(H9.out.fr (Fr.of_below hb2 fun _=>False) fun h=>h).fr (Fr.of_below hbd fun _=>False) fun h=>h;have HBD:=hid (hB2.trans (hbd.mono hB2.size));have c0:=t3d.c0;have c1:=t3d.c1;have c2:=t3d.c2;have d0:=h9d.c6;have d1:=h9d.c7;have d2:=h9d.c8;have df:=h9d.f;have H9D:=hid h9d;have h9l2:=h9d.lt;clear hy hB2 hbd t3d h9d hb2 HE HSH H9 HBW hbs;unfold encT
       gi_wp2
       go_roundw
       case rel=>exact ⟨3,by omega,rfl,((HBD.out.setCell (p:=⟨W.heap.size,6,none⟩) nL _).setCell (p:=⟨W.heap.size,7,none⟩) nL _).setCell (p:=⟨W.heap.size,8,none⟩) nL _,a0,a1,⟨tk,tx,te⟩,H9D.out.put2 _ _ _,fun _=>HQ0.out (by omega),fun _=>HQ1.out (by omega),fun _=>HY.out⟩
       case measure=>decide
     · have HN:=hid hy;have hB2:=HBW.out.trans (hb2.mono HBW.out.size);obtain ⟨wd,hwd⟩:∃wd,w2.alloc (.cells #[.int .i64 tk,.string (str tx),.string (str te)] 62)=wd:=⟨_,rfl⟩;have hbd:Below w2.heap.size w2 wd:=(by rw[<-hwd];exact br.alloc nL _);have HBD:=hid (hB2.trans (hbd.mono hB2.size));have g1:wd.heap[w.heap.size+1]?=some (.cells #[.slice none 0 0] 36 (0,0)):=(HBD.out.block _ (by omega)).trans HR1.out;have g2:wd.heap[w.heap.size+2]?=some (.cells #[.bool false] 4 (0,0)):=(HBD.out.block _ (by omega)).trans HR2.out;have c1:wd.cell? ⟨w.heap.size+1,0,none⟩=some (.slice none 0 0):=(by rw[cell_of_heap g1];rfl);have c2:wd.cell? ⟨w.heap.size+2,0,none⟩=some (.bool false):=(by rw[cell_of_heap g2];rfl);have f1:wd.frozen? ⟨w.heap.size+1,0,none⟩=false:=frozen_of_heap g1 0;have f2:wd.frozen? ⟨w.heap.size+2,0,none⟩=false:=frozen_of_heap g2 0;have G1:=hid g1;have G2:=hid g2;have HNO:Hid (chT d row x.1=none):=by
        rw[HXK.out,HS3.out];exact zlw (HQ0.out (by omega)) (HQ1.out (by omega)) (by rw[HR.out];exact HN.out)
       clear hy hB2 hbd g1 g2 hb2 HE HSH H9 HBW hbs;unfold encT
       gi_wp2
       refine ⟨((zbp HBD.out).trans (KeepsOthers.setCell _ _ _)).trans (KeepsOthers.setCell _ _ _),⟨rfl,fun h=>h x (List.mem_append.2 (.inr List.mem_cons_self)) HNO.out,?_,?_⟩,?_⟩
       · rw[Below.heap_setCell _ _ _ _ (by show w.heap.size+1≠w.heap.size+2;omega)];exact zbc _ G1.out
       · exact zbc _ (by rw[Below.heap_setCell _ _ _ _ (by show w.heap.size+2≠w.heap.size+1;omega)];exact G2.out)
       · exact ((HB.out.trans (HBD.out.mono HB.out.size)).setCell (p:=⟨w.heap.size+1,0,none⟩) (by show w.heap.size<=w.heap.size+1;omega) _).setCell (p:=⟨w.heap.size+2,0,none⟩) (by show w.heap.size<=w.heap.size+2;omega) _
   · have HY:=hid (zjH (q0 (by omega)) (q1 (by omega)) (q2 (by omega)));have hbx3:Boxed wr (w.heap.size+3) 36 (.slice Av (tsO d row pre).length cv):=(hbw.block _ (by have:=HBX.out.lt;omega)).trans HBX.out;have hrow3:=Fd.own_below HOWN.out hbw;have b4:Boxed wr (w.heap.size+4) 89 (.slice A (3*m) c):=(hbw.block _ (by omega)).trans HR4.out;have b5:Boxed wr (w.heap.size+5) 3 (.int .i64 3):=(hbw.block _ (by omega)).trans HR5.out;have n4:=b4.not_row (by decide) hrow3;have n5:=b5.not_row (by decide) hrow3;have k0:=hbw.block (w.heap.size+0) (by omega);have k1:=hbw.block (w.heap.size+1) (by omega);have k2:=hbw.block (w.heap.size+2) (by omega);have n0:=(show Boxed wr w.heap.size 86 _ from k0.trans HR0.out).not_row (by decide) hrow3;have n1:=(show Boxed wr (w.heap.size+1) 36 _ from k1.trans HR1.out).not_row (by decide) hrow3;have n2:=(show Boxed wr (w.heap.size+2) 4 _ from k2.trans HR2.out).not_row (by decide) hrow3;have z0:=k0.trans HR0.out;have z1:=k1.trans HR1.out;have z2:=k2.trans HR2.out;have NN:=hid (And.intro n0 (And.intro n1 (And.intro n2 (And.intro n4 n5))));have ZZ:=hid (And.intro z0 (And.intro z1 (And.intro z2 (And.intro b4 b5))));have hlen3:(tsO d row pre).length<=1000:=by
      unfold tsO;have:=List.length_filterMap_le (fun x:Fin m=>chT d row x.1) pre;omega
     have HTS:Hid (tsO d row (pre++[x])=tsO d row pre++[⟨a0,a1,a2⟩]):=by
      show tsO d row (pre++[x])=_;unfold tsO;rw[List.filterMap_append,List.filterMap_cons,HXK.out,HS3.out,HY.out];rfl
     have HALL2:Hid (allSome d row (pre++[x])):=by
      intro y hy;rcases List.mem_append.1 hy with hy | hy
      · exact HALL.out y hy
      · rw[List.mem_singleton]at hy;subst hy;rw[HXK.out,HS3.out,HY.out];exact fun h=>by cases h
     have c0:=h9.c0;have c1:=h9.c1;have c2:=h9.c2;have c3:=h9.c3;have c4:=h9.c4;have c5:=h9.c5;have c6:=h9.c6;have c7:=h9.c7;have c8:=h9.c8;have cb:=hbx3.cell;have HBX3:=hid hbx3;have HROW3:=hid hrow3;have HBW:=hid hbw;have hbs:=hbw.size;obtain ⟨i0,hi,hz0,hz1,hz2⟩:=zbb;clear q0 q1 q2 hbx3 hrow3 b4 b5 n0 n1 n2 n4 n5 k0 k1 k2 z0 z1 z2 h9 hbw;generalize htl:(tsO d row pre).length=tl at HBX3 HROW3 cb hlen3;have HTL:=hid htl;clear htl
     gi_wp2_with (gi_at_builtin;refine wpListIn_append_own _ rfl _ _ 36 rfl w.heap.size 110 i0 _ 9 120 underlying36 hi hz0 hz1 hz2 rfl (by decide) (.slice Av tl cv) tl ((tsO d row pre).flatMap encTri) rfl (HROW3.out.alloc _) ⟨wr.heap.size,0,none⟩ 1 1 [.int .i64 a0.k,.string (str a0.x),.string (str a0.e),.int .i64 a1.k,.string (str a1.x),.string (str a1.e),.int .i64 a2.k,.string (str a2.x),.string (str a2.e)] rfl rfl (World.news_of_block (cs:=#[.int .i64 a0.k,.string (str a0.x),.string (str a0.e),.int .i64 a1.k,.string (str a1.x),.string (str a1.e),.int .i64 a2.k,.string (str a2.x),.string (str a2.e)]) (t:=110) (fr:=(0,0)) (heap_alloc_new wr _)) (by simp[Value.oneCell']) (by unfold maxLen;omega) (by omega) (by simp;omega) ?_;intro v' w1 hown' hgrow _;obtain ⟨g',cap',rfl⟩:=ownsRow_succ hown';obtain ⟨hv1,hv2,hr2,hk2,hb2⟩:=HBX3.out.appended (by decide) HROW3.out (by omega) (by omega) hown' hgrow;have hc1:=hv1.cell;have hf1:=hv1.frozen)
     have hkeep:∀(j:Nat) (o:Obj),wr.heap[j]?=some o->j≠w.heap.size+3->some j≠(Value.slice Av tl cv).ownBlock->(w1.setCell ⟨w.heap.size+3,0,none⟩ (.slice (some ⟨g',0,none⟩) (tl+1) cap')).heap[j]?=some o:=by
      intro j o hj hne hnr;rw[Below.heap_setCell _ _ _ _ hne];have h1:=za2 (.cells #[.int .i64 a0.k,.string (str a0.x),.string (str a0.e),.int .i64 a1.k,.string (str a1.x),.string (str a1.e),.int .i64 a2.k,.string (str a2.x),.string (str a2.e)] 110) hj;exact (hgrow.block j (Array.getElem?_eq_some_iff.1 h1).1 hnr).trans h1
     obtain ⟨n0,n1,n2,n4,n5⟩:=NN.out;obtain ⟨z0,z1,z2,z4,z5⟩:=ZZ.out;rw[HTL.out]at n0 n1 n2 n4 n5;refine ⟨(zbp HBW.out).trans hk2,⟨(hkeep _ _ z4 (by omega) n4).trans HR4.out.symm,(hkeep _ _ z5 (by omega) n5).trans HR5.out.symm⟩,⟨⟨_,hv2,?_,HALL2.out⟩,hkeep _ _ z0 (by omega) n0,hkeep _ _ z1 (by omega) n1,hkeep _ _ z2 (by omega) n2,hkeep _ _ z5 (by omega) n5,hkeep _ _ z4 (by omega) n4⟩,(HB.out.trans (HBW.out.mono HB.out.size)).trans hb2⟩;rw[HTS.out,List.length_append,List.flatMap_append,HTL.out];exact hr2
 case done=>
  rintro D' ys W hD rfl ⟨⟨⟨v,hbx,hown,hall⟩,_,hd1,hd2,_,_⟩,hB⟩ hK;obtain ⟨Av,cv,rfl⟩:=Fd.zac hown;have hsW:=hB.size;have hlt3:=hbx.lt;have hl:(tsO d row (List.finRange m)).length<=1000:=by
   unfold tsO;have:=List.length_filterMap_le (fun x:Fin m=>chT d row x.1) (List.finRange m);rw[List.length_finRange]at this;omega
  have HC:=hid fun W2 (h:Below W.heap.size W W2)=>zjs (tsO d row (List.finRange m)) _ _ W2 (Fd.own_below hown h) (by omega) (fun t ht=>znp ht) (HLA.out.below (hB.trans (h.mono hsW)));have HCB:=hid fun W2 (h:Below W.heap.size W W2)=>zaa hbx.cell h;have HOWN:=hid hown;have HALL:=hid hall;have HB:=hid hB;have H1:=hid hd1;have H2:=hid hd2;have HK:=hid hK;clear hbx hown hall hd1 hd2 hB hK;generalize hLL:tsO d row (List.finRange m)=L at HC HOWN hl HCB;have HLL:=hid hLL;clear hLL;go_wp2_with fail
  refine zi0 ?_;refine sA 6 [4,5] (fun w'=>w'.cell? ⟨w.heap.size+3,0,none⟩=some (.slice Av L.length cv)) ?_ (fun hHeld=>?_)
  · exact HCB.out _ br.drew
  refine tK 0 hHeld ?_;refine tK 1 hHeld ?_;refine oN 2 (fun K hK=>?_);refine cL func87 #[.slice Av L.length cv,.func (.func 88) #[] #[]] ?_;refine (HC.out _ br.drew).mono ?_;rintro e w2 ⟨rfl,hb2⟩;refine ⟨_,rfl,?_⟩;have hb2':Below W.heap.size W w2:=br.drew.trans hb2;have HB2:=hid hb2';have g1:w2.heap[w.heap.size+1]?=some (.cells #[.slice none 0 0] 36 (0,0)):=(hb2'.block _ (by omega)).trans H1.out;have g2:w2.heap[w.heap.size+2]?=some (.cells #[.bool false] 4 (0,0)):=(hb2'.block _ (by omega)).trans H2.out;have c1:w2.cell? ⟨w.heap.size+1,0,none⟩=some (.slice none 0 0):=(by rw[cell_of_heap g1];rfl);have c2:w2.cell? ⟨w.heap.size+2,0,none⟩=some (.bool false):=(by rw[cell_of_heap g2];rfl);have f1:w2.frozen? ⟨w.heap.size+1,0,none⟩=false:=frozen_of_heap g1 0;have f2:w2.frozen? ⟨w.heap.size+2,0,none⟩=false:=frozen_of_heap g2 0;have G1:=hid g1;have G2:=hid g2;clear g1 g2 hb2 hb2';refine oU hK (HCB.out _ HB2.out) (fun hHeld=>?_);clear hK K;refine pU 3 ?_;refine lA 4 (fun K hK=>?_);refine skip_ (w1:=?_) (by rfl) rfl ?_ ?_;rotate_left
  · go_simp;rfl
  refine hK.out _ _ ?_;clear hK K;refine lA 5 (fun K hK=>?_);refine skip_ (w1:=?_) (by rfl) rfl ?_ ?_;rotate_left
  · go_simp;rfl
  refine hK.out _ _ ?_;clear hK K;refine done_ (by kernel_rfl) ?_;obtain ⟨wz,hwz⟩:∃wz,((w2.setCell ⟨w.heap.size+1,0,none⟩ (.slice Av L.length cv)).setCell ⟨w.heap.size+2,0,none⟩ (.bool !L.any fun t=>!triT t))=wz:=⟨_,rfl⟩;have e1:wz.heap[w.heap.size+1]?=some (.cells #[.slice Av L.length cv] 36 (0,0)):=by
   rw[<-hwz,Below.heap_setCell _ _ _ _ (by show w.heap.size+1≠w.heap.size+2;omega)];exact zbc _ G1.out
  have e2:wz.heap[w.heap.size+2]?=some (.cells #[.bool !L.any fun t=>!triT t] 4 (0,0)):=by
   rw[<-hwz];exact zbc _ (by rw[Below.heap_setCell _ _ _ _ (by show w.heap.size+2≠w.heap.size+1;omega)];exact G2.out)
  have hDW:D'<W.heap.size:=(Array.getElem?_eq_some_iff.1 HK.out).1;have e3:wz.heap[D']?=some (.deferred (some [])):=by
   have:=(HB2.out.block D' hDW).trans HK.out;rw[<-hwz];exact ((KeepsOthers.setCell _ _ _).trans (KeepsOthers.setCell _ _ _)).same D' _ this rfl
  have hrowz:wz.ownsRow w.heap.size 110 9 (.slice Av L.length cv) L.length (L.flatMap encTri):=by
   have hr2:=Fd.own_below HOWN.out HB2.out;have n1:=(show Boxed w2 (w.heap.size+1) 36 _ from G1.out).not_row (by decide) hr2;have n2:=(show Boxed w2 (w.heap.size+2) 4 _ from G2.out).not_row (by decide) hr2;rw[<-hwz];exact (hr2.kept (grownBy_setCell' w2 _ _) (.inr n1.symm)).kept (grownBy_setCell' _ _ _) (.inr n2.symm)
  have hBz:Below w.heap.size w wz:=by
   rw[<-hwz];exact ((HB.out.trans (HB2.out.mono HB.out.size)).setCell (p:=⟨w.heap.size+1,0,none⟩) (by show w.heap.size<=w.heap.size+1;omega) _).setCell (p:=⟨w.heap.size+2,0,none⟩) (by show w.heap.size<=w.heap.size+2;omega) _
  rw[hwz];have E1:=hid e1;have E2:=hid e2;have E3:=hid e3;have RZ:=hid hrowz;have BZ:=hid hBz;clear hwz e1 e2 e3 hrowz hBz c1 c2 f1 f2 HCB HC HOWN HB2 G1 G2;go_wp2;refine zjG rfl rfl rfl E1.out E2.out E3.out ⟨?_,BZ.out.trans (belowK_b (w:=w) nL wz D' _ _ (by omega) E3.out rfl rfl)⟩;have hmap:=zjF HALL.out;rw[zof,HLL.out]at hmap;cases hany:L.any fun t=>!triT t with
  | false=>
   refine .inl ⟨L,_,rfl,hmap,?_,ownsRow_putObj RZ.out _ E3.out rfl⟩;intro t ht;have:=List.any_eq_false.1 hany t ht;simpa using this
  | true=>
   refine .inr ⟨?_,_,rfl⟩;rintro ⟨ts,h1,h2⟩;obtain rfl:=zdz (hmap.symm.trans h1);obtain ⟨t,ht,hb⟩:=List.any_eq_true.1 hany;rw[h2 t ht]at hb;cases hb
 case stop=>
  rintro D' cd pre W hD _ ⟨⟨rfl,hns,hd1,hd2⟩,hB⟩ hK;have E1:=hid hd1;have E2:=hid hd2;have E3:=hid hK;have HB:=hid hB;clear hd1 hd2 hK hB;refine wpIn_wide.2 ?_;go_wp2;refine zjG rfl rfl rfl E1.out E2.out E3.out ⟨.inr ⟨?_,_,rfl⟩,HB.out.trans (belowK_b (w:=w) nL W D' _ _ (by omega) E3.out rfl rfl)⟩;rintro ⟨ts,h1,_⟩;apply hns;intro x _ hx;have:chT d row x.1∈(List.range m).map (chT d row):=List.mem_map.2 ⟨x.1,by simp,rfl⟩;rw[h1,hx,List.mem_map]at this;obtain ⟨_,_,h⟩:=this;cases h
end
end Go.Proofs.YtaeiifngjglchaaGreatDoor
end
