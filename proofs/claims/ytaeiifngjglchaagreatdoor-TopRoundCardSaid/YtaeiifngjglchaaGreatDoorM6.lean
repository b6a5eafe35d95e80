/- Proved on the way: The predicates on runes of package term ; Package term: isRune, IsIRI, isLabel, is; Package term: isLang, Is; lines.Is; Package term: Is; lines.Is; Package lines: Is; Package lines: Cmp; Triples and terms in order: plain Lean; Terms compared by ==. Each theorem states its own conditions. -/
import Derived.Test.YtaeiifngjglchaaGreatDoorM5
import Derived.Test.YtaeiifngjglchaaGreatDoorPL2
set_option maxHeartbeats 16000000
set_option maxRecDepth 1000000
section
namespace Go.Proofs.YtaeiifngjglchaaGreatDoor
open Go.Proofs.Tryz
open Go.RowKit Go.Lib Tv
theorem dz (a b:Nat):decide ((a:Int)<=(b:Int))=decide (a<=b):=by simp
theorem zch (x:Nat) (w:World):Calls prog 288 #[.int .i32 (x:Int)] w fun e w'=>e=.returned (.bool (smallR x))/\Below w.heap.size w w':=by
 have h1:decide ((97:Int)<=(x:Int))=decide (97<=x):=dz 97 x;have h2:decide ((x:Int)<=(122:Int))=decide (x<=122):=dz x 122;unfold smallR;generalize decide (97<=x)=y1 at h1 ⊢;generalize decide (x<=122)=y2 at h2 ⊢;cases y1<;>cases y2
 all_goals
  go_enter func288,ntmps288
  go_wp2;go_ret;exact ⟨by first | rfl | simp_all,br⟩
theorem zcj (x:Nat) (w:World):Calls prog 285 #[.int .i32 (x:Int)] w fun e w'=>e=.returned (.bool (digitR x))/\Below w.heap.size w w':=by
 have h1:decide ((48:Int)<=(x:Int))=decide (48<=x):=dz 48 x;have h2:decide ((x:Int)<=(57:Int))=decide (x<=57):=dz x 57;unfold digitR;generalize decide (48<=x)=y1 at h1 ⊢;generalize decide (x<=57)=y2 at h2 ⊢;cases y1<;>cases y2
 all_goals
  go_enter func285,ntmps285
  go_wp2;go_ret;exact ⟨by first | rfl | simp_all,br⟩
theorem zej (x:Nat) (w:World):Calls prog 284 #[.int .i32 (x:Int)] w fun e w'=>e=.returned (.bool (letterR x))/\Below w.heap.size w w':=by
 have h1:decide ((65:Int)<=(x:Int))=decide (65<=x):=dz 65 x;have h2:decide ((x:Int)<=(90:Int))=decide (x<=90):=dz x 90;have HS:=hid fun w=>zch x w;unfold letterR bigR;generalize smallR x=y0 at HS ⊢;generalize decide (65<=x)=y1 at h1 ⊢;generalize decide (x<=90)=y2 at h2 ⊢;cases y0<;>cases y1<;>cases y2
 all_goals
  go_enter func284,ntmps284
  go_wp2_with fail
  refine (HS.out _).mono ?_;rintro e w1 ⟨rfl,hb⟩;go_wp2;go_ret;exact ⟨by first | rfl | simp_all,hb⟩
theorem zdQ (x:Nat) (w:World):Calls prog 283 #[.int .i32 (x:Int)] w fun e w'=>e=.returned (.bool (alR x))/\Below w.heap.size w w':=by
 have HS:=hid fun w=>zej x w;have HD:=hid fun w=>zcj x w;unfold alR;generalize letterR x=y0 at HS ⊢;generalize digitR x=y1 at HD ⊢;cases y0
 · go_enter func283,ntmps283
   go_wp2_with fail
   refine (HS.out _).mono ?_;rintro e w1 ⟨rfl,hb⟩;go_wp2_with fail
   refine (HD.out _).mono ?_;rintro e w2 ⟨rfl,hb2⟩;go_wp2;go_ret;exact ⟨by simp,hb.trans (hb2.mono hb.size)⟩
 · go_enter func283,ntmps283
   go_wp2_with fail
   refine (HS.out _).mono ?_;rintro e w1 ⟨rfl,hb⟩;go_wp2;go_ret;exact ⟨rfl,hb⟩
theorem zci (x:Nat) (w:World):Calls prog 160 #[.int .i32 (x:Int)] w fun e w'=>e=.returned (.bool (alR x))/\Below w.heap.size w w':=by
 have h:PTopFile.lines_isPlain.f (x:Int)=some (alR x):=by
  unfold PTopFile.lines_isPlain.f alR letterR smallR bigR digitR;repeat' split
  all_goals (congr 1;rw[Bool.eq_iff_iff];simp;omega)
 refine (PTopFile.lines_isPlain.calls (x:Int) _ w h).mono ?_;rintro e w' ⟨rfl,⟨n,rfl⟩⟩;exact ⟨rfl,⟨rfl,rfl,rfl,nL,fun _ _=>rfl⟩⟩
theorem ze4 (x:Nat) (w:World):Calls prog 236 #[.int .i32 (x:Int)] w fun e w'=>e=.returned (.bool (tagR x))/\Below w.heap.size w w':=by
 have HS:=hid fun w=>zci x w;have h1:((x:Int) == 45)=decide (x=45):=by
  rw[Bool.eq_iff_iff];simp;omega
 unfold tagR;generalize alR x=y0 at HS ⊢;generalize decide (x=45)=y1 at h1 ⊢;cases y0
 all_goals
  go_enter func236,ntmps236
  go_wp2_with fail
  refine (HS.out _).mono ?_;rintro e w1 ⟨rfl,hb⟩;go_wp2;go_ret;exact ⟨by first | rfl | simp_all,hb⟩
theorem zjv (g:Nat) (lb:Array Value) (eg:∀args w,(callFunc g args).run prog w=.ok (.enter g args) w) (q:Nat->Bool) (w:World) (B:Nat) (hB:B<w.heap.size)
    (hc:w.cell? ⟨B,0,none⟩=some (.func (.func g) #[] lb)) (hp:PredGrows prog g lb q w) :
    PredGrows prog 331 #[.pointer (some ⟨B,0,none⟩)] (fun c=>!q c) w:=by
 intro W x hx hb;have hc':=(hb.cell (p:=⟨B,0,none⟩) hB).trans hc;have HP:=hid (hp W x hx hb);clear hp hc hb hB;show Calls prog 331 #[.int .i32 (x:Int),.pointer (some ⟨B,0,none⟩)] W _;go_enter func331,ntmps331
 go_wp2_with fail
 refine HP.out.mono ?_;rintro e w1 ⟨rfl,hb1⟩;go_wp2;go_ret;exact ⟨rfl,hb1⟩
theorem zhC {g:Nat} {lb:Array Value} {q:Nat->Bool} {w w1:World} (h:PredGrows prog g lb q w) (hb:Below w.heap.size w w1):PredGrows prog g lb q w1:=
 fun W x hx hW=>h W x hx (hb.trans (hW.mono hb.size))
theorem all_calls (g:Nat) (lb:Array Value) (eg:∀args w,(callFunc g args).run prog w=.ok (.enter g args) w) (q:Nat->Bool) (l:Bs) (w:World) (hp:PredGrows prog g lb q w) :
    Calls prog 281 #[.string (str l),.func (.func g) #[] lb] w fun e w'=>e=.returned (.bool (allR q l))/\Below w.heap.size w w':=by
 have hb0:Below w.heap.size w (w.alloc (.cells #[.func (.func g) #[] lb] 234)):=br.alloc nL _;have HA:=hid (zjv g lb eg q (w.alloc (.cells #[.func (.func g) #[] lb] 234)) w.heap.size (by simp) (by simp) (zhC hp hb0));have ea:∀args w,(callFunc 331 args).run prog w=.ok (.enter 331 args) w:=enters_of func331 (by kernel_rfl) rfl;have hC:Calls prog 330 #[.string (str l),.func (.func 331) #[] #[.pointer (some ⟨w.heap.size,0,none⟩)]] (w.alloc (.cells #[.func (.func g) #[] lb] 234)) fun e w'=>e=.returned (.bool (!allR q l))/\Below (w.alloc (.cells #[.func (.func g) #[] lb] 234)).heap.size (w.alloc (.cells #[.func (.func g) #[] lb] 234)) w':=by
  refine (Tryz.strings_ContainsFunc_grows 331 #[.pointer (some ⟨w.heap.size,0,none⟩)] ea (fun c=>!q c) (str l) _ HA.out).mono ?_;rintro e w' ⟨rfl,hb⟩;refine ⟨?_,hb⟩;have:=zkF q (str l) l.length 0 (by omega);rw[zad,List.drop_zero]at this;unfold idxFunc;rw[zab,this];rfl
 have HC:=hid hC;have HB:=hid hb0;clear hC hb0 hp ea HA;go_enter func281,ntmps281
 go_wp2_with fail
 refine HC.out.mono ?_;rintro e w1 ⟨rfl,hb1⟩;go_wp2;go_ret;exact ⟨by simp,HB.out.trans (hb1.mono HB.out.size)⟩
theorem dlt (a b:Nat):decide ((a:Int)<(b:Int))=decide (a<b):=by simp
theorem zgl (x:Nat) (w:World):Calls prog 282 #[.int .i32 (x:Int)] w fun e w'=>e=.returned (.bool (iriR x))/\Below w.heap.size w w':=by
 have h1:decide ((32:Int)<(x:Int))=decide (32<x):=dlt 32 x;have h2:decide ((x:Int)<(127:Int))=decide (x<127):=dlt x 127;have h3:decide ((160:Int)<=(x:Int))=decide (160<=x):=dz 160 x;have HC:x<127->Calls prog 293 #[.string (str oddL),.int .i32 (x:Int)] w fun e w'=>e=.returned (.bool (oddR x))/\w'=w:=by
  intro hx;refine (Tryz.strings_ContainsRune_ascii (str oddL) (x:Int) w (by omega) (by omega)).mono ?_;rintro e w' ⟨rfl,rfl⟩;refine ⟨?_,rfl⟩;rw[zad,Int.toNat_natCast];rfl
 have e0:str oddL=⟨#[34,60,62,92,94,96,123,124,125]⟩:=rfl;rw[e0]at HC;unfold iriR;generalize oddR x=y0 at HC ⊢;by_cases q2:x<127
 · rw[dT q2]at h2 ⊢;have HC:=hid (HC q2);generalize decide (32<x)=y1 at h1 ⊢;generalize decide (160<=x)=y3 at h3 ⊢;cases y1
   · cases y3
     all_goals
      go_enter func282,ntmps282
      go_wp2;go_ret;exact ⟨by first | rfl | simp_all,br⟩
   · cases y0<;>cases y3
     all_goals
      go_enter func282,ntmps282
      go_wp2_with fail
      refine HC.out.mono ?_;rintro e w1 ⟨rfl,rfl⟩;go_wp2;go_ret;exact ⟨by first | rfl | simp_all,br⟩
 · rw[dF q2]at h2 ⊢;clear HC;generalize decide (32<x)=y1 at h1 ⊢;generalize decide (160<=x)=y3 at h3 ⊢;cases y1<;>cases y3
   all_goals
    go_enter func282,ntmps282
    go_wp2;go_ret;exact ⟨by first | rfl | simp_all,br⟩
theorem zkj (l:Bs):((str l).toList == []) = !decide (l≠[]):=by
 rw[Lib.toList_data,zad];cases l<;>simp
theorem zat (l:Bs) (w:World) (ht:Lay w) (hl:l.length<=1000000):Calls prog 109 #[.string (str l)] w fun e w'=>e=.returned (.bool (validD l))/\Below w.heap.size w w':=by
 have:=Any.utf8_ValidString Tryz.valid (str l) w (by rw[zab];omega) ht.tabs;rw[zad]at this;exact this
theorem zdR (l:Bs) (w:World) (ht:Lay w) (hl:l.length<=1000000):Calls prog 217 #[.string (str l)] w fun e w'=>e=.returned (.bool (iriT l))/\Below w.heap.size w w':=by
 have hs:=zkj l;have hz:=zab l;have hd:decide ((l.length:Int)<=(60:Int))=decide (l.length<=60):=dz l.length 60;have HV:=hid (zat l w ht hl);have ea:∀args w,(callFunc 282 args).run prog w=.ok (.enter 282 args) w:=enters_of func282 (by kernel_rfl) rfl;have HA:=hid fun w=>all_calls 282 #[] ea iriR l w (fun W x _ _=>zgl x W);clear ea;unfold iriT;generalize decide (l≠[])=y0 at hs ⊢;generalize decide (l.length<=60)=y1 at hd ⊢;generalize validD l=y2 at HV ⊢;generalize allR iriR l=y3 at HA ⊢;cases y0
 · go_enter func217,ntmps217
   go_wp2;go_ret;exact ⟨rfl,br⟩
 · cases y1
   · go_enter func217,ntmps217
     go_wp2;go_ret;exact ⟨rfl,br⟩
   · cases y2
     · go_enter func217,ntmps217
       go_wp2_with fail
       refine HV.out.mono ?_;rintro e w1 ⟨rfl,hb1⟩;go_wp2;go_ret;exact ⟨rfl,hb1⟩
     · go_enter func217,ntmps217
       go_wp2_with fail
       refine HV.out.mono ?_;rintro e w1 ⟨rfl,hb1⟩;go_wp2_with fail
       refine (HA.out _).mono ?_;rintro e w2 ⟨rfl,hb2⟩;go_wp2;go_ret;exact ⟨by simp,hb1.trans (hb2.mono hb1.size)⟩
theorem zfq (l:Bs) (w:World):Calls prog 218 #[.string (str l)] w fun e w'=>e=.returned (.bool (labT l))/\Below w.heap.size w w':=by
 have hs:=zkj l;have hz:=zab l;have hd:decide ((l.length:Int)<=(8:Int))=decide (l.length<=8):=dz l.length 8;have ea:∀args w,(callFunc 283 args).run prog w=.ok (.enter 283 args) w:=enters_of func283 (by kernel_rfl) rfl;have HA:=hid fun w=>all_calls 283 #[] ea alR l w (fun W x _ _=>zdQ x W);clear ea;unfold labT;generalize decide (l≠[])=y0 at hs ⊢;generalize decide (l.length<=8)=y1 at hd ⊢;generalize allR alR l=y3 at HA ⊢;cases y0
 · go_enter func218,ntmps218
   go_wp2;go_ret;exact ⟨rfl,br⟩
 · cases y1
   · go_enter func218,ntmps218
     go_wp2;go_ret;exact ⟨rfl,br⟩
   · go_enter func218,ntmps218
     go_wp2_with fail
     refine (HA.out _).mono ?_;rintro e w2 ⟨rfl,hb2⟩;go_wp2;go_ret;exact ⟨by simp,hb2⟩
theorem zei (B i x:Nat) (w:World) (hc:w.cell? ⟨B,0,none⟩=some (.int .i64 (i:Int))) :
    Calls prog 287 #[.int .i32 (x:Int),.pointer (some ⟨B,0,none⟩)] w fun e w'=>e=.returned (.bool (langR i x))/\Below w.heap.size w w':=by
 have hB:=World.block_lt_of_cell? w _ hc;have HS:=hid fun w=>zch x w;have HD:=hid fun w=>zcj x w;have HC:=hid hc;unfold langR;generalize smallR x=y0 at HS ⊢;generalize digitR x=y2 at HD ⊢;clear hc;cases y0
 · by_cases hi:0<i
   · have h1:decide ((0:Int)<(i:Int))=true:=dT (by omega);rw[dT hi];go_enter func287,ntmps287
     go_wp2_with fail
     refine (HS.out _).mono ?_;rintro e w1 ⟨rfl,hb⟩;have c1:=(hb.cell (p:=⟨B,0,none⟩) hB).trans HC.out;go_wp2_with fail
     refine (HD.out _).mono ?_;rintro e w2 ⟨rfl,hb2⟩;go_wp2;go_ret;exact ⟨by simp,hb.trans (hb2.mono hb.size)⟩
   · have h1:decide ((0:Int)<(i:Int))=false:=dF (by omega);rw[dF hi];go_enter func287,ntmps287
     go_wp2_with fail
     refine (HS.out _).mono ?_;rintro e w1 ⟨rfl,hb⟩;have c1:=(hb.cell (p:=⟨B,0,none⟩) hB).trans HC.out;go_wp2;go_ret;exact ⟨rfl,hb⟩
 · go_enter func287,ntmps287
   go_wp2_with fail
   refine (HS.out _).mono ?_;rintro e w1 ⟨rfl,hb⟩;go_wp2;go_ret;exact ⟨rfl,hb⟩
theorem pieces_eq (l:Bs):(Lib.splitB (str [45]) 0 (Lib.countB (str l) (str [45])) (str l)).map Value.string=((parts l).map fun x=>Value.string (str x))/\Lib.countB (str l) (str [45])+1=(parts l).length:=by
 have h1:=Lib.splitB_data (str [45]) 0 (Lib.countB (str l) (str [45])) (str l);rw[zad,zad]at h1;have h2:Lib.countB (str l) (str [45])=Lib.count l [45]:=by
  show Lib.count (str l).data.toList (str [45]).data.toList=_;rw[zad,zad]
 have h3:=Lib.splitB_all (str [45]) (by decide) 0 _ (str l) rfl;rw[h2]at h1 h3 ⊢;rw[zdw]at h1;constructor
 · rw[<-h1,List.map_map];refine List.map_congr_left fun x _=>?_;show Value.string x=Value.string (str x.data.toList);rw[str_of]
 · rw[<-h1,List.length_map,h3]
theorem zlZ (l:Bs):(parts l).length<=l.length+1:=by
 rw[<-(pieces_eq l).2];have:=Lib.countB_le (str [45]) (by decide) l.length (str l) (by rw[zab];exact nL);rw[zab]at this;omega
theorem zhk (l:Bs) (k:Nat) (x:Bs) (h:(parts l)[k]?=some x):partsT k ((parts l).drop k)=(partT k x && partsT (k+1) ((parts l).drop (k+1))):=by
 obtain ⟨hk,rfl⟩:=List.getElem?_eq_some_iff.1 h;rw[List.drop_eq_getElem_cons hk];rfl
theorem zgm (l:Bs) (w:World) (ht:Lay w) (hl:l.length<=1000000):Calls prog 219 #[.string (str l)] w fun e w'=>e=.returned (.bool (langT l))/\Below w.heap.size w w':=by
 obtain ⟨m,hm⟩:=ht.most;have hz:=zab l;have hd:decide ((l.length:Int)<=(16:Int))=decide (l.length<=16):=dz l.length 16;have HS:Calls prog 286 #[.string (str l),.string (str [45])] w fun e w'=>e=.returned (.slice (some ⟨w.heap.size,0,none⟩) (parts l).length (parts l).length)/\w'=w.alloc (.cells ((parts l).map fun x=>Value.string (str x)).toArray 9):=by
  have:=Tryz.strings_Split (str l) (str [45]) m w (by rw[hz];omega) hm (by decide);rw[(pieces_eq l).1,(pieces_eq l).2]at this;exact this
 have e0:str [45]=⟨#[45]⟩:=rfl;rw[e0]at HS;have HP:=hid HS;have hLT:langT l=(partsT 0 (parts l) && decide (l.length<=16)):=rfl;have HL:=hid hLT;generalize decide (l.length<=16)=y1 at hd HL;clear HS hLT hm;have ea:∀args w,(callFunc 287 args).run prog w=.ok (.enter 287 args) w:=enters_of func287 (by kernel_rfl) rfl;have EA:=hid ea;clear ea;go_enter func219,ntmps219
 go_wp2_with fail
 refine HP.out.mono ?_;rintro e w1 ⟨rfl,hw1⟩;have hb1:Below w.heap.size w w1:=(by rw[hw1];exact br.alloc nL _);have hz1:w1.heap.size=w.heap.size+1:=(by rw[hw1];simp);have hc1:∀(k:Nat) x,(parts l)[k]?=some x->w1.cell? ⟨w.heap.size,k,none⟩=some (.string (str x)):=by
  intro k x hk;rw[hw1,cell_of_heap (heap_alloc_new w _)];simp[hk]
 clear hw1;have HB:=hid hb1;have HC:=hid hc1;have hpl:=zlZ l;clear hb1 hc1;go_wp2;go_loopw [8] (fun i wr=>∃k:Nat,i=.int .i64 (k:Int)/\k<=(parts l).length/\Below w1.heap.size w1 wr/\partsT 0 (parts l)=partsT k ((parts l).drop k)) (fun i _=>(parts l).length-(RowKit.intOf i).toNat)
 case atStart=>exact ⟨0,rfl,Nat.zero_le _,br,by rw[List.drop_zero]⟩
 case round=>
  obtain ⟨k,rfl,hk,hb,he⟩:=hrel;have HBR:=hid hb;have HSZ:=hid hb.size;have HE:=hid he;have hsz:=hb.size;clear hb he;by_cases hlt:k<(parts l).length
  · obtain ⟨x,hx⟩:∃x,(parts l)[k]?=some x:=⟨_,List.getElem?_eq_getElem hlt⟩;have hkz:(k:Int)<((parts l).length:Int):=(by omega);have hwk:wrap64 ((k:Int)+1)=(k:Int)+1:=(by unfold wrap64;omega);have cx:wr.cell? ⟨w.heap.size,k,none⟩=some (.string (str x)):=(HBR.out.cell (p:=⟨w.heap.size,k,none⟩) (by show w.heap.size<_;omega)).trans (HC.out k x hx);have hst:=zhk l k x hx;rw[HE.out.symm]at hst;have HST:=hid hst;have hs:=zkj x;have hzx:=zab x;have hd8:decide ((8:Int)<(x.length:Int)) = !decide (x.length<=8):=by
     rw[Bool.eq_iff_iff];simp;omega
    have hb0:Below wr.heap.size wr (wr.alloc (.cells #[.int .i64 (k:Int)] 3)):=br.alloc nL _
    have HA:=hid fun W (hW:Below (wr.alloc (.cells #[.int .i64 (k:Int)] 3)).heap.size (wr.alloc (.cells #[.int .i64 (k:Int)] 3)) W)=>all_calls 287 #[.pointer (some ⟨wr.heap.size,0,none⟩)] EA.out (langR k) x W (fun V y _ hV=>zei wr.heap.size k y V (by
     have h1:(wr.alloc (.cells #[.int .i64 (k:Int)] 3)).cell? ⟨wr.heap.size,0,none⟩=some (.int .i64 (k:Int)):=(by simp);exact ((hW.trans (hV.mono hW.size)).cell (p:=⟨wr.heap.size,0,none⟩) (by simp)).trans h1))
    have HB0:=hid hb0;have hpt:partT k x=(decide (x≠[]) && decide (x.length<=8) && allR (langR k) x):=rfl;have HPT:=hid hpt;generalize decide (x≠[])=y2 at hs HPT;generalize decide (x.length<=8)=y3 at hd8 HPT;generalize allR (langR k) x=y4 at HA HPT;clear hst hb0 hpt hx;cases y2
    · go_wp2;go_ret;refine ⟨?_,HB.out.trans ((HBR.out.mono HB.out.size).trans (HB0.out.mono (by have:=HSZ.out;omega)))⟩;rw[HL.out,HST.out,HPT.out];rfl
    · cases y3
      · go_wp2;go_ret;refine ⟨?_,HB.out.trans ((HBR.out.mono HB.out.size).trans (HB0.out.mono (by have:=HSZ.out;omega)))⟩;rw[HL.out,HST.out,HPT.out];rfl
      · go_wp2_with fail
        refine (HA.out _ br).mono ?_;rintro e w2 ⟨rfl,hb2⟩;have hall:Below w1.heap.size w1 w2:=HBR.out.trans ((HB0.out.mono hsz).trans (hb2.mono (by have:=HSZ.out;simp;omega)));cases y4
        · go_wp2;go_ret;refine ⟨?_,HB.out.trans (hall.mono HB.out.size)⟩;rw[HL.out,HST.out,HPT.out];rfl
        · have HALL:=hid hall;clear hall hb2;go_wp2;go_round
          case measure=>show (parts l).length-((k:Int)+1).toNat<(parts l).length-(k:Int).toNat;omega
          case rel=>exact ⟨k+1,by simp,by omega,HALL.out,by rw[HST.out,HPT.out];rfl⟩
  · obtain rfl:k=(parts l).length:=(by omega);have hkz:¬(((parts l).length:Int)<((parts l).length:Int)):=(by omega);have he:=HE.out;rw[List.drop_length]at he;go_wp2;go_ret;refine ⟨?_,HB.out.trans (HBR.out.mono HB.out.size)⟩;rw[HL.out,he];rfl
theorem zdW (l:Bs):((str l).toList == [])=decide (l=[]):=by
 rw[Lib.toList_data,zad];cases l<;>simp
theorem zaa {w0 W:World} {p:Addr} {v:Value} (h:w0.cell? p=some v) (hb:Below w0.heap.size w0 W):W.cell? p=some v:=
 (hb.cell (p:=p) (World.block_lt_of_cell? w0 _ h)).trans h
theorem zar {w W:World} {o:Obj} (hb:Below (w.alloc o).heap.size (w.alloc o) W):Below w.heap.size w W:=
 ((Below.refl _ w).alloc nL o).trans (hb.mono (by simp))
theorem zmp (x e:Bs) (hx:x.length<=1000000) (_:e.length<=1000000) (w:World) (ht:Lay w) :
    Calls prog 144 #[.agg #[.int .i64 1,.string (str x),.string (str e)]] w fun e_ w'=>e_=.returned (.bool (tmT ⟨1,x,e⟩))/\Below w.heap.size w w':=by
 have hz:=zab x;have hz2:=zab e;have hd:decide ((x.length:Int)<=(30:Int))=decide (x.length<=30):=dz x.length 30;have hs:=zdW e;have hL:=ht.below ((Below.refl w.heap.size w).alloc nL (.cells #[.int .i64 1,.string (str x),.string (str e)] 62));have HV:=hid (zat x _ hL hx);have HI:=hid fun W (hW:Below (w.alloc (.cells #[.int .i64 1,.string (str x),.string (str e)] 62)).heap.size (w.alloc (.cells #[.int .i64 1,.string (str x),.string (str e)] 62)) W)=>zdR x W (hL.below hW) hx;have k0:(w.alloc (.cells #[.int .i64 1,.string (str x),.string (str e)] 62)).cell? ⟨w.heap.size,0,none⟩=some (.int .i64 1):=(by simp);have K0:=hid k0;have k1:(w.alloc (.cells #[.int .i64 1,.string (str x),.string (str e)] 62)).cell? ⟨w.heap.size,1,none⟩=some (.string (str x)):=(by simp);have k2:(w.alloc (.cells #[.int .i64 1,.string (str x),.string (str e)] 62)).cell? ⟨w.heap.size,2,none⟩=some (.string (str e)):=(by simp);have K1:=hid k1;have K2:=hid k2;clear k0 k1 k2 hL ht hx;have htm:tmT ⟨1,x,e⟩=(iriT x && decide (e=[])):=rfl;rw[htm];clear htm;generalize decide (x.length<=30)=yl at hd ⊢;generalize validD x=yv at HV ⊢;generalize decide (e=[])=ye at hs ⊢;generalize iriT x=y at HI ⊢;cases y
 · cases yl
   · skip
     go_enter func144,ntmps144
     go_wp2_with fail
     refine (HI.out _ br).mono ?_;rintro e2 w2 ⟨rfl,hb2⟩;have d2:=zaa K2.out hb2;go_wp2;go_ret;exact ⟨by first | rfl | simp_all,zar hb2⟩
   · skip
     go_enter func144,ntmps144
     go_wp2_with fail
     refine HV.out.mono ?_;rintro e1 w1 ⟨rfl,hb1⟩;have c0:=zaa K0.out hb1;have c1:=zaa K1.out hb1;have c2:=zaa K2.out hb1;go_wp2_with fail
     refine (HI.out _ hb1).mono ?_;rintro e2 w2 ⟨rfl,hb2⟩;have hb3:=hb1.trans (hb2.mono hb1.size);have d2:=zaa K2.out hb3;go_wp2;go_ret;exact ⟨by first | rfl | simp_all,zar hb3⟩
 · cases yl
   · skip
     go_enter func144,ntmps144
     go_wp2_with fail
     refine (HI.out _ br).mono ?_;rintro e2 w2 ⟨rfl,hb2⟩;have d2:=zaa K2.out hb2;go_wp2;go_ret;exact ⟨by first | rfl | simp_all,zar hb2⟩
   · skip
     go_enter func144,ntmps144
     go_wp2_with fail
     refine HV.out.mono ?_;rintro e1 w1 ⟨rfl,hb1⟩;have c0:=zaa K0.out hb1;have c1:=zaa K1.out hb1;have c2:=zaa K2.out hb1;go_wp2_with fail
     refine (HI.out _ hb1).mono ?_;rintro e2 w2 ⟨rfl,hb2⟩;have hb3:=hb1.trans (hb2.mono hb1.size);have d2:=zaa K2.out hb3;go_wp2;go_ret;exact ⟨by first | rfl | simp_all,zar hb3⟩
theorem zmo (x e:Bs) (hx:x.length<=1000000) (_:e.length<=1000000) (w:World) (ht:Lay w) :
    Calls prog 144 #[.agg #[.int .i64 2,.string (str x),.string (str e)]] w fun e_ w'=>e_=.returned (.bool (tmT ⟨2,x,e⟩))/\Below w.heap.size w w':=by
 have hz:=zab x;have hz2:=zab e;have hd:decide ((x.length:Int)<=(30:Int))=decide (x.length<=30):=dz x.length 30;have hs:=zdW e;have hL:=ht.below ((Below.refl w.heap.size w).alloc nL (.cells #[.int .i64 2,.string (str x),.string (str e)] 62));have HV:=hid (zat x _ hL hx);have HI:=hid fun W (hW:Below (w.alloc (.cells #[.int .i64 2,.string (str x),.string (str e)] 62)).heap.size (w.alloc (.cells #[.int .i64 2,.string (str x),.string (str e)] 62)) W)=>zfq x W;have k0:(w.alloc (.cells #[.int .i64 2,.string (str x),.string (str e)] 62)).cell? ⟨w.heap.size,0,none⟩=some (.int .i64 2):=(by simp);have K0:=hid k0;have k1:(w.alloc (.cells #[.int .i64 2,.string (str x),.string (str e)] 62)).cell? ⟨w.heap.size,1,none⟩=some (.string (str x)):=(by simp);have k2:(w.alloc (.cells #[.int .i64 2,.string (str x),.string (str e)] 62)).cell? ⟨w.heap.size,2,none⟩=some (.string (str e)):=(by simp);have K1:=hid k1;have K2:=hid k2;clear k0 k1 k2 hL ht hx;have htm:tmT ⟨2,x,e⟩=(labT x && decide (e=[])):=rfl;rw[htm];clear htm;generalize decide (x.length<=30)=yl at hd ⊢;generalize validD x=yv at HV ⊢;generalize decide (e=[])=ye at hs ⊢;generalize labT x=y at HI ⊢;cases y
 · cases yl
   · skip
     go_enter func144,ntmps144
     go_wp2_with fail
     refine (HI.out _ br).mono ?_;rintro e2 w2 ⟨rfl,hb2⟩;have d2:=zaa K2.out hb2;go_wp2;go_ret;exact ⟨by first | rfl | simp_all,zar hb2⟩
   · skip
     go_enter func144,ntmps144
     go_wp2_with fail
     refine HV.out.mono ?_;rintro e1 w1 ⟨rfl,hb1⟩;have c0:=zaa K0.out hb1;have c1:=zaa K1.out hb1;have c2:=zaa K2.out hb1;go_wp2_with fail
     refine (HI.out _ hb1).mono ?_;rintro e2 w2 ⟨rfl,hb2⟩;have hb3:=hb1.trans (hb2.mono hb1.size);have d2:=zaa K2.out hb3;go_wp2;go_ret;exact ⟨by first | rfl | simp_all,zar hb3⟩
 · cases yl
   · skip
     go_enter func144,ntmps144
     go_wp2_with fail
     refine (HI.out _ br).mono ?_;rintro e2 w2 ⟨rfl,hb2⟩;have d2:=zaa K2.out hb2;go_wp2;go_ret;exact ⟨by first | rfl | simp_all,zar hb2⟩
   · skip
     go_enter func144,ntmps144
     go_wp2_with fail
     refine HV.out.mono ?_;rintro e1 w1 ⟨rfl,hb1⟩;have c0:=zaa K0.out hb1;have c1:=zaa K1.out hb1;have c2:=zaa K2.out hb1;go_wp2_with fail
     refine (HI.out _ hb1).mono ?_;rintro e2 w2 ⟨rfl,hb2⟩;have hb3:=hb1.trans (hb2.mono hb1.size);have d2:=zaa K2.out hb3;go_wp2;go_ret;exact ⟨by first | rfl | simp_all,zar hb3⟩
theorem zmn (x e:Bs) (hx:x.length<=1000000) (_:e.length<=1000000) (w:World) (ht:Lay w) :
    Calls prog 144 #[.agg #[.int .i64 3,.string (str x),.string (str e)]] w fun e_ w'=>e_=.returned (.bool (tmT ⟨3,x,e⟩))/\Below w.heap.size w w':=by
 have hz:=zab x;have hz2:=zab e;have hd:decide ((x.length:Int)<=(30:Int))=decide (x.length<=30):=dz x.length 30;have hs:=zdW e;have hL:=ht.below ((Below.refl w.heap.size w).alloc nL (.cells #[.int .i64 3,.string (str x),.string (str e)] 62));have HV:=hid (zat x _ hL hx);have k0:(w.alloc (.cells #[.int .i64 3,.string (str x),.string (str e)] 62)).cell? ⟨w.heap.size,0,none⟩=some (.int .i64 3):=(by simp);have K0:=hid k0;have k1:(w.alloc (.cells #[.int .i64 3,.string (str x),.string (str e)] 62)).cell? ⟨w.heap.size,1,none⟩=some (.string (str x)):=(by simp);have k2:(w.alloc (.cells #[.int .i64 3,.string (str x),.string (str e)] 62)).cell? ⟨w.heap.size,2,none⟩=some (.string (str e)):=(by simp);have K1:=hid k1;have K2:=hid k2;clear k0 k1 k2 hL ht hx;have htm:tmT ⟨3,x,e⟩=(decide (x.length<=30) && validD x && decide (e=[])):=rfl;rw[htm];clear htm;generalize decide (x.length<=30)=yl at hd ⊢;generalize validD x=yv at HV ⊢;generalize decide (e=[])=ye at hs ⊢;cases yl
 · skip
   go_enter func144,ntmps144
   go_wp2;go_ret;exact ⟨by first | rfl | simp_all,zar br⟩
 · cases yv
   · skip
     go_enter func144,ntmps144
     go_wp2_with fail
     refine HV.out.mono ?_;rintro e1 w1 ⟨rfl,hb1⟩;have c0:=zaa K0.out hb1;have c1:=zaa K1.out hb1;have c2:=zaa K2.out hb1;go_wp2;go_ret;exact ⟨by first | rfl | simp_all,zar hb1⟩
   · skip
     go_enter func144,ntmps144
     go_wp2_with fail
     refine HV.out.mono ?_;rintro e1 w1 ⟨rfl,hb1⟩;have c0:=zaa K0.out hb1;have c1:=zaa K1.out hb1;have c2:=zaa K2.out hb1;go_wp2;go_ret;exact ⟨by first | rfl | simp_all,zar hb1⟩
theorem zmm (x e:Bs) (hx:x.length<=1000000) (he:e.length<=1000000) (w:World) (ht:Lay w) :
    Calls prog 144 #[.agg #[.int .i64 4,.string (str x),.string (str e)]] w fun e_ w'=>e_=.returned (.bool (tmT ⟨4,x,e⟩))/\Below w.heap.size w w':=by
 have hz:=zab x;have hz2:=zab e;have hd:decide ((x.length:Int)<=(30:Int))=decide (x.length<=30):=dz x.length 30;have hs:=zdW e;have hL:=ht.below ((Below.refl w.heap.size w).alloc nL (.cells #[.int .i64 4,.string (str x),.string (str e)] 62));have HV:=hid (zat x _ hL hx);have HI:=hid fun W (hW:Below (w.alloc (.cells #[.int .i64 4,.string (str x),.string (str e)] 62)).heap.size (w.alloc (.cells #[.int .i64 4,.string (str x),.string (str e)] 62)) W)=>zgm e W (hL.below hW) he;have k0:(w.alloc (.cells #[.int .i64 4,.string (str x),.string (str e)] 62)).cell? ⟨w.heap.size,0,none⟩=some (.int .i64 4):=(by simp);have K0:=hid k0;have k1:(w.alloc (.cells #[.int .i64 4,.string (str x),.string (str e)] 62)).cell? ⟨w.heap.size,1,none⟩=some (.string (str x)):=(by simp);have k2:(w.alloc (.cells #[.int .i64 4,.string (str x),.string (str e)] 62)).cell? ⟨w.heap.size,2,none⟩=some (.string (str e)):=(by simp);have K1:=hid k1;have K2:=hid k2;clear k0 k1 k2 hL ht hx he;have htm:tmT ⟨4,x,e⟩=(decide (x.length<=30) && validD x && langT e):=rfl;rw[htm];clear htm;generalize decide (x.length<=30)=yl at hd ⊢;generalize validD x=yv at HV ⊢;generalize decide (e=[])=ye at hs ⊢;generalize langT e=y at HI ⊢;cases yl
 · skip
   go_enter func144,ntmps144
   go_wp2;go_ret;exact ⟨by first | rfl | simp_all,zar br⟩
 · cases yv
   · skip
     go_enter func144,ntmps144
     go_wp2_with fail
     refine HV.out.mono ?_;rintro e1 w1 ⟨rfl,hb1⟩;have c0:=zaa K0.out hb1;have c1:=zaa K1.out hb1;have c2:=zaa K2.out hb1;go_wp2;go_ret;exact ⟨by first | rfl | simp_all,zar hb1⟩
   · skip
     go_enter func144,ntmps144
     go_wp2_with fail
     refine HV.out.mono ?_;rintro e1 w1 ⟨rfl,hb1⟩;have c0:=zaa K0.out hb1;have c1:=zaa K1.out hb1;have c2:=zaa K2.out hb1;go_wp2_with fail
     refine (HI.out _ hb1).mono ?_;rintro e2 w2 ⟨rfl,hb2⟩;have hb3:=hb1.trans (hb2.mono hb1.size);have d2:=zaa K2.out hb3;go_wp2;go_ret;exact ⟨by first | rfl | simp_all,zar hb3⟩
theorem zml (x e:Bs) (hx:x.length<=1000000) (he:e.length<=1000000) (w:World) (ht:Lay w) :
    Calls prog 144 #[.agg #[.int .i64 5,.string (str x),.string (str e)]] w fun e_ w'=>e_=.returned (.bool (tmT ⟨5,x,e⟩))/\Below w.heap.size w w':=by
 have hz:=zab x;have hz2:=zab e;have hd:decide ((x.length:Int)<=(30:Int))=decide (x.length<=30):=dz x.length 30;have hs:=zdW e;have hL:=ht.below ((Below.refl w.heap.size w).alloc nL (.cells #[.int .i64 5,.string (str x),.string (str e)] 62));have HV:=hid (zat x _ hL hx);have HI:=hid fun W (hW:Below (w.alloc (.cells #[.int .i64 5,.string (str x),.string (str e)] 62)).heap.size (w.alloc (.cells #[.int .i64 5,.string (str x),.string (str e)] 62)) W)=>zdR e W (hL.below hW) he;have k0:(w.alloc (.cells #[.int .i64 5,.string (str x),.string (str e)] 62)).cell? ⟨w.heap.size,0,none⟩=some (.int .i64 5):=(by simp);have K0:=hid k0;have k1:(w.alloc (.cells #[.int .i64 5,.string (str x),.string (str e)] 62)).cell? ⟨w.heap.size,1,none⟩=some (.string (str x)):=(by simp);have k2:(w.alloc (.cells #[.int .i64 5,.string (str x),.string (str e)] 62)).cell? ⟨w.heap.size,2,none⟩=some (.string (str e)):=(by simp);have K1:=hid k1;have K2:=hid k2;clear k0 k1 k2 hL ht hx he;have htm:tmT ⟨5,x,e⟩=(decide (x.length<=30) && validD x && iriT e):=rfl;rw[htm];clear htm;generalize decide (x.length<=30)=yl at hd ⊢;generalize validD x=yv at HV ⊢;generalize decide (e=[])=ye at hs ⊢;generalize iriT e=y at HI ⊢;cases yl
 · skip
   go_enter func144,ntmps144
   go_wp2;go_ret;exact ⟨by first | rfl | simp_all,zar br⟩
 · cases yv
   · skip
     go_enter func144,ntmps144
     go_wp2_with fail
     refine HV.out.mono ?_;rintro e1 w1 ⟨rfl,hb1⟩;have c0:=zaa K0.out hb1;have c1:=zaa K1.out hb1;have c2:=zaa K2.out hb1;go_wp2;go_ret;exact ⟨by first | rfl | simp_all,zar hb1⟩
   · skip
     go_enter func144,ntmps144
     go_wp2_with fail
     refine HV.out.mono ?_;rintro e1 w1 ⟨rfl,hb1⟩;have c0:=zaa K0.out hb1;have c1:=zaa K1.out hb1;have c2:=zaa K2.out hb1;go_wp2_with fail
     refine (HI.out _ hb1).mono ?_;rintro e2 w2 ⟨rfl,hb2⟩;have hb3:=hb1.trans (hb2.mono hb1.size);have d2:=zaa K2.out hb3;go_wp2;go_ret;exact ⟨by first | rfl | simp_all,zar hb3⟩
theorem zgk (k:Int) (h1:k≠1) (h2:k≠2) (h3:k≠3) (h4:k≠4) (h5:k≠5) (x e:Bs) (hx:x.length<=1000000) (_:e.length<=1000000) (w:World) (ht:Lay w) :
    Calls prog 144 #[.agg #[.int .i64 k,.string (str x),.string (str e)]] w fun e_ w'=>e_=.returned (.bool (tmT ⟨k,x,e⟩))/\Below w.heap.size w w':=by
 have hz:=zab x;have hz2:=zab e;have hd:decide ((x.length:Int)<=(30:Int))=decide (x.length<=30):=dz x.length 30;have hs:=zdW e;have hL:=ht.below ((Below.refl w.heap.size w).alloc nL (.cells #[.int .i64 k,.string (str x),.string (str e)] 62));have HV:=hid (zat x _ hL hx);have k0:(w.alloc (.cells #[.int .i64 k,.string (str x),.string (str e)] 62)).cell? ⟨w.heap.size,0,none⟩=some (.int .i64 k):=(by simp);have K0:=hid k0;have k1:(w.alloc (.cells #[.int .i64 k,.string (str x),.string (str e)] 62)).cell? ⟨w.heap.size,1,none⟩=some (.string (str x)):=(by simp);have k2:(w.alloc (.cells #[.int .i64 k,.string (str x),.string (str e)] 62)).cell? ⟨w.heap.size,2,none⟩=some (.string (str e)):=(by simp);have K1:=hid k1;have K2:=hid k2;clear k0 k1 k2 hL ht hx;have htm:tmT ⟨k,x,e⟩=false:=by
  unfold tmT;simp only;rw[if_neg h1,if_neg h2,if_neg h3,if_neg h4,if_neg h5]
 have b1:(k == 1)=false:=(by simp[h1]);have b2:(k == 2)=false:=(by simp[h2]);have b3:(k == 3)=false:=(by simp[h3]);have b4:(k == 4)=false:=(by simp[h4]);have b5:(k == 5)=false:=(by simp[h5]);clear h1 h2 h3 h4 h5;rw[htm];clear htm;generalize decide (x.length<=30)=yl at hd ⊢;generalize validD x=yv at HV ⊢;generalize decide (e=[])=ye at hs ⊢;cases yl
 · skip
   go_enter func144,ntmps144
   go_wp2;go_ret;exact ⟨by first | rfl | simp_all,zar br⟩
 · skip
   go_enter func144,ntmps144
   go_wp2_with fail
   refine HV.out.mono ?_;rintro e1 w1 ⟨rfl,hb1⟩;have c0:=zaa K0.out hb1;have c1:=zaa K1.out hb1;have c2:=zaa K2.out hb1;go_wp2;go_ret;exact ⟨by first | rfl | simp_all,zar hb1⟩
theorem zbU (t:Tm) (h:Sml t) (w:World) (ht:Lay w) :
    Calls prog 144 #[.agg (encT t).toArray] w fun e w'=>e=.returned (.bool (tmT t))/\Below w.heap.size w w':=by
 obtain ⟨k,x,e⟩:=t;by_cases h1:k=1
 · subst h1;exact zmp x e h.1 h.2 w ht
 by_cases h2:k=2
 · subst h2;exact zmo x e h.1 h.2 w ht
 by_cases h3:k=3
 · subst h3;exact zmn x e h.1 h.2 w ht
 by_cases h4:k=4
 · subst h4;exact zmm x e h.1 h.2 w ht
 by_cases h5:k=5
 · subst h5;exact zml x e h.1 h.2 w ht
 exact zgk k h1 h2 h3 h4 h5 x e h.1 h.2 w ht
structure Tri where
 s:Tm
 p:Tm
 o:Tm
 deriving DecidableEq
def encTri (t:Tri):List Value:=encT t.s++encT t.p++encT t.o
def SmlT (t:Tri):Prop:=Sml t.s/\Sml t.p/\Sml t.o
def triT (t:Tri):Bool:=tmT t.s && tmT t.p && tmT t.o && (decide (t.s.k=1) || decide (t.s.k=2)) && decide (t.p.k=1)
theorem zne (t:Tri) (h:SmlT t) (w:World) (ht:Lay w) :
    Calls prog 89 #[.agg (encTri t).toArray] w fun e w'=>e=.returned (.bool (triT t))/\Below w.heap.size w w':=by
 obtain ⟨⟨sk,sx,se⟩,⟨pk,px,pe⟩,⟨ok,ox,oe⟩⟩:=t;obtain ⟨hs,hp,ho⟩:=h;simp only at hs hp ho;have hL:=ht.below ((Below.refl w.heap.size w).alloc nL (.cells #[.int .i64 sk,.string (str sx),.string (str se),.int .i64 pk,.string (str px),.string (str pe),.int .i64 ok,.string (str ox),.string (str oe)] 110));have k0:∀i v,(#[.int .i64 sk,.string (str sx),.string (str se),.int .i64 pk,.string (str px),.string (str pe),.int .i64 ok,.string (str ox),.string (str oe)]:Array Value)[i]?=some v->(w.alloc (.cells #[.int .i64 sk,.string (str sx),.string (str se),.int .i64 pk,.string (str px),.string (str pe),.int .i64 ok,.string (str ox),.string (str oe)] 110)).cell? ⟨w.heap.size,i,none⟩=some v:=by
  intro i v hv;rw[cell_of_heap (heap_alloc_new w _)];exact hv
 have K0:=hid k0;have HS:=hid (zbU ⟨sk,sx,se⟩ hs _ hL);have HP:=hid fun W (hW:Below (w.alloc (.cells #[.int .i64 sk,.string (str sx),.string (str se),.int .i64 pk,.string (str px),.string (str pe),.int .i64 ok,.string (str ox),.string (str oe)] 110)).heap.size (w.alloc (.cells #[.int .i64 sk,.string (str sx),.string (str se),.int .i64 pk,.string (str px),.string (str pe),.int .i64 ok,.string (str ox),.string (str oe)] 110)) W)=>zbU ⟨pk,px,pe⟩ hp W (hL.below hW);have HO:=hid fun W (hW:Below (w.alloc (.cells #[.int .i64 sk,.string (str sx),.string (str se),.int .i64 pk,.string (str px),.string (str pe),.int .i64 ok,.string (str ox),.string (str oe)] 110)).heap.size (w.alloc (.cells #[.int .i64 sk,.string (str sx),.string (str se),.int .i64 pk,.string (str px),.string (str pe),.int .i64 ok,.string (str ox),.string (str oe)] 110)) W)=>zbU ⟨ok,ox,oe⟩ ho W (hL.below hW);unfold encT at HS HP HO;simp only at HS HP HO;unfold encTri encT triT;simp only[List.cons_append,List.nil_append];clear k0 hL hs hp ho ht;generalize tmT ⟨sk,sx,se⟩=y1 at HS ⊢;generalize tmT ⟨pk,px,pe⟩=y2 at HP ⊢;generalize tmT ⟨ok,ox,oe⟩=y3 at HO ⊢;cases y1
 · go_enter func89,ntmps89
   go_wp2_with fail
   refine HS.out.mono ?_;rintro e1 w1 ⟨rfl,hb1⟩;go_wp2;go_ret;exact ⟨rfl,zar hb1⟩
 · cases y2
   · go_enter func89,ntmps89
     go_wp2_with fail
     refine HS.out.mono ?_;rintro e1 w1 ⟨rfl,hb1⟩;have d3:=zaa (K0.out 3 _ rfl) hb1;have d4:=zaa (K0.out 4 _ rfl) hb1;have d5:=zaa (K0.out 5 _ rfl) hb1;go_wp2_with fail
     refine (HP.out _ hb1).mono ?_;rintro e1 w2 ⟨rfl,hb2⟩;go_wp2;go_ret;exact ⟨rfl,zar (hb1.trans (hb2.mono hb1.size))⟩
   · cases y3
     · go_enter func89,ntmps89
       go_wp2_with fail
       refine HS.out.mono ?_;rintro e1 w1 ⟨rfl,hb1⟩;have d3:=zaa (K0.out 3 _ rfl) hb1;have d4:=zaa (K0.out 4 _ rfl) hb1;have d5:=zaa (K0.out 5 _ rfl) hb1;go_wp2_with fail
       refine (HP.out _ hb1).mono ?_;rintro e1 w2 ⟨rfl,hb2⟩;have hb2':=hb1.trans (hb2.mono hb1.size);have d6:=zaa (K0.out 6 _ rfl) hb2';have d7:=zaa (K0.out 7 _ rfl) hb2';have d8:=zaa (K0.out 8 _ rfl) hb2';go_wp2_with fail
       refine (HO.out _ hb2').mono ?_;rintro e1 w3 ⟨rfl,hb3⟩;go_wp2;go_ret;exact ⟨rfl,zar (hb2'.trans (hb3.mono hb2'.size))⟩
     · have q:∀(k z:Int),(k == z)=decide (k=z):=fun k z=>rfl;have q1:=q sk 1;have q2:=q sk 2;have q3:=q pk 1;clear q;generalize decide (sk=1)=z1 at q1 ⊢;generalize decide (sk=2)=z2 at q2 ⊢;generalize decide (pk=1)=z3 at q3 ⊢;cases z1<;>cases z2
       all_goals
        go_enter func89,ntmps89
        go_wp2_with fail
        refine HS.out.mono ?_;rintro e1 w1 ⟨rfl,hb1⟩;have d3:=zaa (K0.out 3 _ rfl) hb1;have d4:=zaa (K0.out 4 _ rfl) hb1;have d5:=zaa (K0.out 5 _ rfl) hb1;go_wp2_with fail
        refine (HP.out _ hb1).mono ?_;rintro e1 w2 ⟨rfl,hb2⟩;have hb2':=hb1.trans (hb2.mono hb1.size);have d6:=zaa (K0.out 6 _ rfl) hb2';have d7:=zaa (K0.out 7 _ rfl) hb2';have d8:=zaa (K0.out 8 _ rfl) hb2';go_wp2_with fail
        refine (HO.out _ hb2').mono ?_;rintro e1 w3 ⟨rfl,hb3⟩;have hb3':=hb2'.trans (hb3.mono hb2'.size);have f0:=zaa (K0.out 0 _ rfl) hb3';have f3:=zaa (K0.out 3 _ rfl) hb3';go_wp2;go_ret;exact ⟨by first | rfl | simp_all,zar hb3'⟩
end Go.Proofs.YtaeiifngjglchaaGreatDoor
end
section
namespace Go.Proofs.YtaeiifngjglchaaGreatDoor
open Go.Proofs.Tryz
open Go.RowKit Go.Lib Tv Go.Sort
def or3 (a b c:Int):Int:=if a=0 then if b=0 then c else b else a
theorem zl4 (b:Nat) (x y z:Int) (w:World) (h0:w.cell? ⟨b,0,none⟩=some (.int .i64 x)) (h1:w.cell? ⟨b,1,none⟩=some (.int .i64 y)) (h2:w.cell? ⟨b,2,none⟩=some (.int .i64 z)) :
    Calls prog 146 #[.slice (some ⟨b,0,none⟩) 3 3] w fun e w'=>e=.returned (.int .i64 (or3 x y z))/\Below w.heap.size w w':=by
 go_enter func146,ntmps146
 go_wp2;go_loopw [8] (fun i wr=>wr=w/\∃(k:Nat),i=.int .i64 k/\(k=0\/(k=1/\Hid (x=0))\/(k=2/\Hid (x=0)/\Hid (y=0))\/(k=3/\Hid (x=0)/\Hid (y=0)/\Hid (z=0)))) (fun i _=>3-(RowKit.intOf i).toNat)
 case atStart=>exact ⟨rfl,0,rfl,.inl rfl⟩
 case round=>
  obtain ⟨rfl,k,rfl,rfl | ⟨rfl,HX⟩ | ⟨rfl,HX,HY⟩ | ⟨rfl,HX,HY,HZ⟩⟩:=hrel
  · by_cases hx:x=0
    · have hxb:(x == 0)=true:=(by simp[hx]);have HX:=hid hx;clear hx;go_wp2;go_round
      case measure=>decide
      case rel=>exact ⟨trivial,1,rfl,.inr (.inl ⟨rfl,HX⟩)⟩
    · have hxb:(x == 0)=false:=(by simp[hx]);have HX:=hid hx;clear hx;go_wp2;go_ret;exact ⟨by unfold or3;rw[if_neg HX.out];rfl,br⟩
  · by_cases hx:y=0
    · have hxb:(y == 0)=true:=(by simp[hx]);have HY:=hid hx;clear hx;go_wp2;go_round
      case measure=>decide
      case rel=>exact ⟨trivial,2,rfl,.inr (.inr (.inl ⟨rfl,HX,HY⟩))⟩
    · have hxb:(y == 0)=false:=(by simp[hx]);have HY:=hid hx;clear hx;go_wp2;go_ret;exact ⟨by unfold or3;rw[if_pos HX.out,if_neg HY.out];rfl,br⟩
  · by_cases hx:z=0
    · have hxb:(z == 0)=true:=(by simp[hx]);have HZ:=hid hx;clear hx;go_wp2;go_round
      case measure=>decide
      case rel=>exact ⟨trivial,3,rfl,.inr (.inr (.inr ⟨rfl,HX,HY,HZ⟩))⟩
    · have hxb:(z == 0)=false:=(by simp[hx]);have HZ:=hid hx;clear hx;go_wp2;go_ret;exact ⟨by unfold or3;rw[if_pos HX.out,if_pos HY.out];rfl,br⟩
  · go_wp2;go_ret;exact ⟨by unfold or3;rw[if_pos HX.out,if_pos HY.out,HZ.out];rfl,br⟩
def cmpTri (s t:Tri):Int:=or3 (cmpT s.s t.s) (cmpT s.p t.p) (cmpT s.o t.o)
theorem zc4 (s t:Tm) (hs:Sml s) (ht:Sml t) (w:World) (n:Nat) (os:Array Obj) :
    Calls prog 70 #[.agg (encT s).toArray,.agg (encT t).toArray] (Sort.grow (w.drewN n) os) fun e w''=>e=.returned (.int .i64 (cmpT s t))/\∃p:GrownBy,w''=Sort.grow (w.drewN p.n) p.os:=
 Calls.grown_of (Dr.calls_grow (zgF s t hs ht _))
theorem zhH:∀args w,(callFunc 70 args).run prog w=.ok (.enter 70 args) w:=enters_of func70 (by kernel_rfl) rfl
theorem zeF (s t:Tri) (hs:SmlT s) (ht:SmlT t) (w:World) :
    Calls prog 92 #[.agg (encTri s).toArray,.agg (encTri t).toArray] w fun e w'=>e=.returned (.int .i64 (cmpTri s t))/\Below w.heap.size w w':=by
 unfold cmpTri;obtain ⟨⟨k1,x1,e1⟩,⟨k2,x2,e2⟩,⟨k3,x3,e3⟩⟩:=s;obtain ⟨⟨m1,y1,f1⟩,⟨m2,y2,f2⟩,⟨m3,y3,f3⟩⟩:=t;have H1:=hid fun w n os=>zc4 ⟨k1,x1,e1⟩ ⟨m1,y1,f1⟩ hs.1 ht.1 w n os;have H2:=hid fun w n os=>zc4 ⟨k2,x2,e2⟩ ⟨m2,y2,f2⟩ hs.2.1 ht.2.1 w n os;have H3:=hid fun w n os=>zc4 ⟨k3,x3,e3⟩ ⟨m3,y3,f3⟩ hs.2.2 ht.2.2 w n os;clear hs ht;unfold encTri;unfold encT at H1 H2 H3 ⊢;simp only[List.cons_append,List.nil_append]at H1 H2 H3 ⊢;generalize cmpT ⟨k1,x1,e1⟩ ⟨m1,y1,f1⟩=r1 at H1 ⊢;generalize cmpT ⟨k2,x2,e2⟩ ⟨m2,y2,f2⟩=r2 at H2 ⊢;generalize cmpT ⟨k3,x3,e3⟩ ⟨m3,y3,f3⟩=r3 at H3 ⊢;go_enter func92,ntmps92
 go_wp2;generalize hwa:w.alloc (.cells #[.int .i64 k1,.string (str x1),.string (str e1),.int .i64 k2,.string (str x2),.string (str e2),.int .i64 k3,.string (str x3),.string (str e3)] 110)=wa;generalize hwb:wa.alloc (.cells #[.int .i64 m1,.string (str y1),.string (str f1),.int .i64 m2,.string (str y2),.string (str f2),.int .i64 m3,.string (str y3),.string (str f3)] 110)=wb;have hna:wa.heap.size=w.heap.size+1:=(by rw[<-hwa];simp);have hnb:wb.heap.size=w.heap.size+2:=(by rw[<-hwb];simp;omega);have hbb:Below w.heap.size w wb:=by
  rw[<-hwb,<-hwa];exact ((Below.refl _ w).alloc nL _).alloc (by simp) _
 have a0:∀(n:Nat) (os:Array Obj),(Sort.grow (wb.drewN n) os).cell? ⟨w.heap.size,0,none⟩=some (.int .i64 k1):=fun n os=>cell_grown (by show w.heap.size<_;omega) (by rw[<-hwb,<-hwa];simp) n os;have a1:∀(n:Nat) (os:Array Obj),(Sort.grow (wb.drewN n) os).cell? ⟨w.heap.size,1,none⟩=some (.string (str x1)):=fun n os=>cell_grown (by show w.heap.size<_;omega) (by rw[<-hwb,<-hwa];simp) n os;have a2:∀(n:Nat) (os:Array Obj),(Sort.grow (wb.drewN n) os).cell? ⟨w.heap.size,2,none⟩=some (.string (str e1)):=fun n os=>cell_grown (by show w.heap.size<_;omega) (by rw[<-hwb,<-hwa];simp) n os;have a3:∀(n:Nat) (os:Array Obj),(Sort.grow (wb.drewN n) os).cell? ⟨w.heap.size,3,none⟩=some (.int .i64 k2):=fun n os=>cell_grown (by show w.heap.size<_;omega) (by rw[<-hwb,<-hwa];simp) n os;have a4:∀(n:Nat) (os:Array Obj),(Sort.grow (wb.drewN n) os).cell? ⟨w.heap.size,4,none⟩=some (.string (str x2)):=fun n os=>cell_grown (by show w.heap.size<_;omega) (by rw[<-hwb,<-hwa];simp) n os;have a5:∀(n:Nat) (os:Array Obj),(Sort.grow (wb.drewN n) os).cell? ⟨w.heap.size,5,none⟩=some (.string (str e2)):=fun n os=>cell_grown (by show w.heap.size<_;omega) (by rw[<-hwb,<-hwa];simp) n os;have a6:∀(n:Nat) (os:Array Obj),(Sort.grow (wb.drewN n) os).cell? ⟨w.heap.size,6,none⟩=some (.int .i64 k3):=fun n os=>cell_grown (by show w.heap.size<_;omega) (by rw[<-hwb,<-hwa];simp) n os;have a7:∀(n:Nat) (os:Array Obj),(Sort.grow (wb.drewN n) os).cell? ⟨w.heap.size,7,none⟩=some (.string (str x3)):=fun n os=>cell_grown (by show w.heap.size<_;omega) (by rw[<-hwb,<-hwa];simp) n os;have a8:∀(n:Nat) (os:Array Obj),(Sort.grow (wb.drewN n) os).cell? ⟨w.heap.size,8,none⟩=some (.string (str e3)):=fun n os=>cell_grown (by show w.heap.size<_;omega) (by rw[<-hwb,<-hwa];simp) n os;have b0:∀(n:Nat) (os:Array Obj),(Sort.grow (wb.drewN n) os).cell? ⟨w.heap.size+1,0,none⟩=some (.int .i64 m1):=fun n os=>cell_grown (by show w.heap.size+1<_;omega) (by rw[<-hwb,<-hna];simp) n os;have b1:∀(n:Nat) (os:Array Obj),(Sort.grow (wb.drewN n) os).cell? ⟨w.heap.size+1,1,none⟩=some (.string (str y1)):=fun n os=>cell_grown (by show w.heap.size+1<_;omega) (by rw[<-hwb,<-hna];simp) n os;have b2:∀(n:Nat) (os:Array Obj),(Sort.grow (wb.drewN n) os).cell? ⟨w.heap.size+1,2,none⟩=some (.string (str f1)):=fun n os=>cell_grown (by show w.heap.size+1<_;omega) (by rw[<-hwb,<-hna];simp) n os;have b3:∀(n:Nat) (os:Array Obj),(Sort.grow (wb.drewN n) os).cell? ⟨w.heap.size+1,3,none⟩=some (.int .i64 m2):=fun n os=>cell_grown (by show w.heap.size+1<_;omega) (by rw[<-hwb,<-hna];simp) n os
 have b4:∀(n:Nat) (os:Array Obj),(Sort.grow (wb.drewN n) os).cell? ⟨w.heap.size+1,4,none⟩=some (.string (str y2)):=fun n os=>cell_grown (by show w.heap.size+1<_;omega) (by rw[<-hwb,<-hna];simp) n os;have b5:∀(n:Nat) (os:Array Obj),(Sort.grow (wb.drewN n) os).cell? ⟨w.heap.size+1,5,none⟩=some (.string (str f2)):=fun n os=>cell_grown (by show w.heap.size+1<_;omega) (by rw[<-hwb,<-hna];simp) n os;have b6:∀(n:Nat) (os:Array Obj),(Sort.grow (wb.drewN n) os).cell? ⟨w.heap.size+1,6,none⟩=some (.int .i64 m3):=fun n os=>cell_grown (by show w.heap.size+1<_;omega) (by rw[<-hwb,<-hna];simp) n os;have b7:∀(n:Nat) (os:Array Obj),(Sort.grow (wb.drewN n) os).cell? ⟨w.heap.size+1,7,none⟩=some (.string (str y3)):=fun n os=>cell_grown (by show w.heap.size+1<_;omega) (by rw[<-hwb,<-hna];simp) n os;have b8:∀(n:Nat) (os:Array Obj),(Sort.grow (wb.drewN n) os).cell? ⟨w.heap.size+1,8,none⟩=some (.string (str f3)):=fun n os=>cell_grown (by show w.heap.size+1<_;omega) (by rw[<-hwb,<-hna];simp) n os;have HBB:=hid hbb;clear hwa hwb hbb;try rw[hna]
 have hmix:=mixed;have hent:=zhH;refine zbj 15 (by assumption) (by kernel_rfl) ?_;simp only[List.take_succ_cons,List.take_zero,List.drop_succ_cons,List.drop_zero];repeat (quiet_step (first | (go_at_fn 70;first | with_reducible exact H1.out _ _ _ | with_reducible exact H2.out _ _ _ | with_reducible exact H3.out _ _ _)))
 refine wpQuiet_nil ?_;intro _ hw';obtain ⟨⟨nq,osq⟩,hw''⟩:=hw';subst hw'';clear a0 a1 a2 a3 a4 a5 a6 a7 a8 b0 b1 b2 b3 b4 b5 b6 b7 b8;have hbg:=below_grow wb nq osq;generalize Sort.grow (wb.drewN nq) osq=wc at hbg ⊢;obtain ⟨wd,hwd⟩:∃wd,wc.alloc (.cells #[.int .i64 r1,.int .i64 r2,.int .i64 r3] 3)=wd:=⟨_,rfl⟩;have HO:=hid (zl4 wc.heap.size r1 r2 r3 wd (by rw[<-hwd];simp) (by rw[<-hwd];simp) (by rw[<-hwd];simp));have hbd:Below wc.heap.size wc wd:=(by rw[<-hwd];exact br.alloc nL _);have HBD:=hid (HBB.out.trans ((hbg.mono (by omega)).trans (hbd.mono (by have:=hbg.size;omega))));have HWD:=hid hwd;clear hbg hbd hwd;go_wp2_with fail
 rw[HWD.out];refine HO.out.mono ?_;rintro e we ⟨rfl,hbe⟩;go_wp2;go_ret;exact ⟨rfl,HBD.out.trans (hbe.mono HBD.out.size)⟩
abbrev VTm:={t:Tm // tmT t=true}
abbrev VTri:={t:Tri // triT t=true}
def aTm:Tm:=⟨1,[97],[]⟩
theorem zgN:tmT aTm=true:=by decide +kernel
instance:Inhabited VTm:=⟨⟨aTm,zgN⟩⟩
instance:Inhabited VTri:=⟨⟨⟨aTm,aTm,aTm⟩,by unfold triT;simp only[zgN];decide⟩⟩
theorem VTri.s (t:VTri):tmT t.1.s=true:=by
 have h:=t.2;unfold triT at h;simp only[Bool.and_eq_true]at h;exact h.1.1.1.1
theorem VTri.p (t:VTri):tmT t.1.p=true:=by
 have h:=t.2;unfold triT at h;simp only[Bool.and_eq_true]at h;exact h.1.1.1.2
theorem VTri.o (t:VTri):tmT t.1.o=true:=by
 have h:=t.2;unfold triT at h;simp only[Bool.and_eq_true]at h;exact h.1.1.2
theorem zcY {l:Bs} (h:iriT l=true):l.length<=60:=by
 unfold iriT at h;simp only[Bool.and_eq_true,decide_eq_true_eq]at h;exact h.1.1.2
theorem znt (t:Tm) (h:tmT t=true):t.x.length<=60/\t.e.length<=60:=by
 obtain ⟨k,x,e⟩:=t;have txt:∀{l:Bs},txtT l=true->l.length<=60:=fun {l} h=>by
  unfold txtT at h;simp only[Bool.and_eq_true,decide_eq_true_eq]at h;omega
 have lab:∀{l:Bs},labT l=true->l.length<=60:=fun {l} h=>by
  unfold labT at h;simp only[Bool.and_eq_true,decide_eq_true_eq]at h;omega
 have lng:∀{l:Bs},langT l=true->l.length<=60:=fun {l} h=>by
  unfold langT at h;simp only[Bool.and_eq_true,decide_eq_true_eq]at h;omega
 unfold tmT at h;simp only at h;repeat' split at h
 · simp only[Bool.and_eq_true,decide_eq_true_eq]at h;exact ⟨zcY h.1,by simp[h.2]⟩
 · simp only[Bool.and_eq_true,decide_eq_true_eq]at h;exact ⟨lab h.1,by simp[h.2]⟩
 · simp only[Bool.and_eq_true,decide_eq_true_eq]at h;exact ⟨txt h.1,by simp[h.2]⟩
 · simp only[Bool.and_eq_true]at h;exact ⟨txt h.1,lng h.2⟩
 · simp only[Bool.and_eq_true]at h;exact ⟨txt h.1,zcY h.2⟩
 · cases h
theorem VTm.sml (t:VTm):Sml t.1:=by
 have:=znt t.1 t.2;exact ⟨by omega,by omega⟩
theorem VTri.sml (t:VTri):SmlT t.1:=⟨VTm.sml ⟨_,t.s⟩,VTm.sml ⟨_,t.p⟩,VTm.sml ⟨_,t.o⟩⟩
theorem zbv (a b:Bs):cmpB a b<0↔a<b:=by
 unfold cmpB;rw[Go.Proofs.bytesLess_eq];by_cases h:a<b
 · simp[h]
 · simp only[h,decide_false,Bool.false_eq_true,if_false,iff_false];split<;>decide
theorem zaC (a b:Bs):cmpB a b=0↔a=b:=by
 unfold cmpB;rw[Go.Proofs.bytesLess_eq];by_cases h:a<b
 · simp only[h,decide_true,if_true];constructor
   · intro h2;cases h2
   · rintro rfl;exact absurd h (List.lt_irrefl a)
 · simp only[h,decide_false,Bool.false_eq_true,if_false];by_cases h2:a=b
   · simp[h2]
   · simp[h2]
theorem zeu (a b:Bs):a<b\/a=b\/b<a:=by
 by_cases h:a<b
 · exact .inl h
 · by_cases h2:b<a
   · exact .inr (.inr h2)
   · exact .inr (.inl (List.le_antisymm (List.not_lt.1 h2) (List.not_lt.1 h)))
def KLt (x y:Bs × Bs × Bs):Prop:=x.1<y.1\/(x.1=y.1/\(x.2.1<y.2.1\/(x.2.1=y.2.1/\x.2.2<y.2.2)))
theorem KLt.irrefl (x:Bs × Bs × Bs):¬KLt x x:=by
 unfold KLt;rintro (h | ⟨_,h | ⟨_,h⟩⟩)<;>exact List.lt_irrefl _ h
theorem KLt.trans {x y z:Bs × Bs × Bs} (h1:KLt x y) (h2:KLt y z):KLt x z:=by
 unfold KLt at *;rcases h1 with h1 | ⟨e1,h1⟩
 · rcases h2 with h2 | ⟨e2,_⟩
   · exact .inl (List.lt_trans h1 h2)
   · exact .inl (e2 ▸ h1)
 · rcases h2 with h2 | ⟨e2,h2⟩
   · exact .inl (e1 ▸ h2)
   · refine .inr ⟨e1.trans e2,?_⟩;rcases h1 with h1 | ⟨f1,h1⟩
     · rcases h2 with h2 | ⟨f2,_⟩
       · exact .inl (List.lt_trans h1 h2)
       · exact .inl (f2 ▸ h1)
     · rcases h2 with h2 | ⟨f2,h2⟩
       · exact .inl (f1 ▸ h2)
       · exact .inr ⟨f1.trans f2,List.lt_trans h1 h2⟩
theorem KLt.tri (x y:Bs × Bs × Bs):KLt x y\/x=y\/KLt y x:=by
 unfold KLt;obtain ⟨a,b,c⟩:=x;obtain ⟨a',b',c'⟩:=y;simp only;rcases zeu a a' with h | rfl | h
 · exact .inl (.inl h)
 · rcases zeu b b' with h | rfl | h
   · exact .inl (.inr ⟨rfl,.inl h⟩)
   · rcases zeu c c' with h | rfl | h
     · exact .inl (.inr ⟨rfl,.inr ⟨rfl,h⟩⟩)
     · exact .inr (.inl rfl)
     · exact .inr (.inr (.inr ⟨rfl,.inr ⟨rfl,h⟩⟩))
   · exact .inr (.inr (.inr ⟨rfl,.inl h⟩))
 · exact .inr (.inr (.inl h))
def keyT (t:Tri):Bs × Bs × Bs:=(shw t.s,shw t.p,shw t.o)
theorem zbK (s t:Tri):cmpTri s t<0↔KLt (keyT s) (keyT t):=by
 unfold cmpTri or3 KLt keyT cmpT;by_cases h1:cmpB (shw s.s) (shw t.s)=0
 · rw[if_pos h1];have e1:=(zaC _ _).1 h1;by_cases h2:cmpB (shw s.p) (shw t.p)=0
   · rw[if_pos h2];have e2:=(zaC _ _).1 h2;rw[zbv,e1,e2];simp[List.lt_irrefl]
   · rw[if_neg h2,zbv,e1];have ne2:shw s.p≠shw t.p:=fun e=>h2 ((zaC _ _).2 e);simp[List.lt_irrefl,ne2]
 · rw[if_neg h1,zbv];have ne1:shw s.s≠shw t.s:=fun e=>h1 ((zaC _ _).2 e);simp[ne1]
theorem zhK (s t:Tri):cmpTri s t=0↔keyT s=keyT t:=by
 unfold cmpTri or3 keyT cmpT;by_cases h1:cmpB (shw s.s) (shw t.s)=0
 · rw[if_pos h1];have e1:=(zaC _ _).1 h1;by_cases h2:cmpB (shw s.p) (shw t.p)=0
   · rw[if_pos h2];have e2:=(zaC _ _).1 h2;rw[zaC,e1,e2];simp
   · rw[if_neg h2,zaC,e1];have ne2:shw s.p≠shw t.p:=fun e=>h2 ((zaC _ _).2 e);simp[ne2]
 · rw[if_neg h1,zaC];have ne1:shw s.s≠shw t.s:=fun e=>h1 ((zaC _ _).2 e);simp[ne1]
theorem zbT {s t:Tm} (hs:tmT s=true) (ht:tmT t=true) (h:shw s=shw t):s=t:=znF s t (za8 s hs) (za8 t ht) h
theorem zhz {s t:VTri} (h:keyT s.1=keyT t.1):s=t:=by
 unfold keyT at h;simp only[Prod.mk.injEq]at h;apply Subtype.ext;have e1:=zbT s.s t.s h.1;have e2:=zbT s.p t.p h.2.1;have e3:=zbT s.o t.o h.2.2;obtain ⟨⟨a,b,c⟩,_⟩:=s;obtain ⟨⟨a',b',c'⟩,_⟩:=t;simp only at e1 e2 e3;simp only[e1,e2,e3]
def cmpV (x y:VTri):Int:=cmpTri x.1 y.1
def encV (t:VTri):List Value:=encTri t.1
theorem zjP {β:Type} (lt:β->β->Bool) {κ:Type} (key:β->κ) (R:κ->κ->Prop) (h:∀x y,lt x y=true↔R (key x) (key y)) (hi:∀a,¬R a a) (ht:∀{a b c},R a b->R b c->R a c) (h3:∀a b,R a b\/a=b\/R b a):SWO lt where
 irrefl x:=by
  cases hx:lt x x with
  | false=>rfl
  | true=>exact absurd ((h x x).1 hx) (hi _)
 trans x y z h1 h2:=(h x z).2 (ht ((h x y).1 h1) ((h y z).1 h2))
 ntrans x y z h1 h2:=by
  cases hx:lt x z with
  | false=>rfl
  | true=>
   exfalso;have hxz:=(h x z).1 hx;rcases h3 (key x) (key y) with g | g | g
   · rw[(h x y).2 g]at h1;cases h1
   · rw[g]at hxz;rw[(h y z).2 hxz]at h2;cases h2
   · rw[(h y z).2 (ht g hxz)]at h2;cases h2
theorem swoV:SWO (ltOf cmpV):=zjP _ (fun t:VTri=>keyT t.1) KLt (fun x y=>by unfold ltOf cmpV;rw[decide_eq_true_eq];exact zbK _ _) KLt.irrefl KLt.trans KLt.tri
def cmpM (x y:VTm):Int:=cmpT x.1 y.1
def encM (t:VTm):List Value:=encT t.1
theorem swoM:SWO (ltOf cmpM):=zjP _ (fun t:VTm=>shw t.1) (· < ·) (fun x y=>by unfold ltOf cmpM cmpT;rw[decide_eq_true_eq];exact zbv _ _) List.lt_irrefl List.lt_trans zeu
theorem zgG (x y:VTri):cmpV x y=0↔x=y:=by
 unfold cmpV;rw[zhK];exact ⟨zhz,fun h=>by rw[h]⟩
theorem zd4 (x y:VTm):cmpM x y=0↔x=y:=by
 unfold cmpM cmpT;rw[zaC];exact ⟨fun h=>Subtype.ext (zbT x.2 y.2 h),fun h=>by rw[h]⟩
theorem zbd (x:VTri):(encV x).length=9:=rfl
theorem zbe (x:VTm):(encM x).length=3:=rfl
theorem zbu (x:VTm):∀v∈encM x,v.oneCell'=true:=by
 intro v hv;unfold encM encT at hv;simp only[List.mem_cons,List.not_mem_nil,or_false]at hv;rcases hv with rfl | rfl | rfl<;>rfl
theorem zc2 (x:VTri):∀v∈encV x,v.oneCell'=true:=by
 intro v hv;unfold encV encTri at hv;simp only[List.mem_append]at hv;rcases hv with (hv | hv) | hv
 · exact zbu ⟨x.1.s,x.s⟩ v hv
 · exact zbu ⟨x.1.p,x.p⟩ v hv
 · exact zbu ⟨x.1.o,x.o⟩ v hv
def Rise {β:Type} (lt:β->β->Bool) (l:List β):Prop:=l.Pairwise fun x y=>lt x y=true
theorem zcW {β:Type} {lt:β->β->Bool} (hO:SWO lt):∀{l m:List β},Rise lt l->Rise lt m->(∀x,x∈l↔x∈m)->l=m
 | [],[],_,_,_=>rfl
 | [],y::m,_,_,h=>absurd ((h y).2 (by simp)) (by simp)
 | x::l,[],_,_,h=>absurd ((h x).1 (by simp)) (by simp)
 | x::l,y::m,h1,h2,h=>by
  unfold Rise at h1 h2;rw[List.pairwise_cons]at h1 h2;have hxy:x=y:=by
   rcases List.mem_cons.1 ((h x).1 (by simp)) with e | e
   · exact e
   · rcases List.mem_cons.1 ((h y).2 (by simp)) with e2 | e2
     · exact e2.symm
     · have a:=h2.1 x e;have b:=h1.1 y e2;rw[hO.asymmA a]at b;cases b
  subst hxy;have irr:lt x x=false:=hO.irrefl x;rw[zcW hO h1.2 h2.2 fun z=>?_];constructor
  · intro hz;rcases List.mem_cons.1 ((h z).1 (List.mem_cons_of_mem _ hz)) with e | e
    · have:=h1.1 z hz;rw[e,irr]at this;cases this
    · exact e
  · intro hz;rcases List.mem_cons.1 ((h z).2 (List.mem_cons_of_mem _ hz)) with e | e
    · have:=h2.1 z hz;rw[e,irr]at this;cases this
    · exact e
theorem zhE (x y:VTm) (w:World):(binOp .eql 62 (.agg (encM x).toArray) (.agg (encM y).toArray)).run prog w=.ok (.bool (decide (x=y))) w:=by
 have hb:decide (x=y)=(x.1.k == y.1.k && ((str x.1.x).toList == (str y.1.x).toList && (str x.1.e).toList == (str y.1.e).toList)):=by
  rw[Lib.toList_data,Lib.toList_data,Lib.toList_data,Lib.toList_data,zad,zad,zad,zad];rw[Bool.eq_iff_iff];simp only[decide_eq_true_eq,Bool.and_eq_true,beq_iff_eq];constructor
  · rintro rfl;exact ⟨rfl,rfl,rfl⟩
  · rintro ⟨h1,h2,h3⟩;apply Subtype.ext;obtain ⟨⟨_,_,_⟩,_⟩:=x;obtain ⟨⟨_,_,_⟩,_⟩:=y;simp only at h1 h2 h3;simp only[h1,h2,h3]
 rw[hb];unfold encM encT;go_simp;repeat' split
 all_goals simp_all
theorem zma (x y:VTm) (w:World):(binOp .neq 62 (.agg (encM x).toArray) (.agg (encM y).toArray)).run prog w=.ok (.bool (!decide (x=y))) w:=by
 have hb:decide (x=y)=(x.1.k == y.1.k && ((str x.1.x).toList == (str y.1.x).toList && (str x.1.e).toList == (str y.1.e).toList)):=by
  rw[Lib.toList_data,Lib.toList_data,Lib.toList_data,Lib.toList_data,zad,zad,zad,zad];rw[Bool.eq_iff_iff];simp only[decide_eq_true_eq,Bool.and_eq_true,beq_iff_eq];constructor
  · rintro rfl;exact ⟨rfl,rfl,rfl⟩
  · rintro ⟨h1,h2,h3⟩;apply Subtype.ext;obtain ⟨⟨_,_,_⟩,_⟩:=x;obtain ⟨⟨_,_,_⟩,_⟩:=y;simp only at h1 h2 h3;simp only[h1,h2,h3]
 rw[hb];unfold encM encT;go_simp;repeat' split
 all_goals simp_all
end Go.Proofs.YtaeiifngjglchaaGreatDoor
end
