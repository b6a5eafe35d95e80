/- Proved on the way: The document's terms and triples: may it; The document's triples: may it be one?. Each theorem states its own conditions. -/
import Derived.Test.YtaeiifngjglchaaGreatDoorM13
set_option maxHeartbeats 16000000
set_option maxRecDepth 1000000
section
namespace Go.Proofs.YtaeiifngjglchaaGreatDoor
open Go.Proofs.Tryz
open Go.RowKit Go.Lib Tv
theorem tm_1 (x e:Bs):tmT ⟨1,x,e⟩=(iriT x && decide (e=[])):=rfl
theorem tm_2 (x e:Bs):tmT ⟨2,x,e⟩=(labT x && decide (e=[])):=rfl
theorem tm_3 (x e:Bs):tmT ⟨3,x,e⟩=(txtT x && decide (e=[])):=rfl
theorem tm_4 (x e:Bs):tmT ⟨4,x,e⟩=(txtT x && langT e):=rfl
theorem tm_5 (x e:Bs):tmT ⟨5,x,e⟩=(txtT x && iriT e):=rfl
theorem tm_no (k:Int) (x e:Bs) (h1:k≠1) (h2:k≠2) (h3:k≠3) (h4:k≠4) (h5:k≠5):tmT ⟨k,x,e⟩=false:=by
 unfold tmT;rw[if_neg h1,if_neg h2,if_neg h3,if_neg h4,if_neg h5]
theorem zaM (t:Tm) (h:Sml t) (w:World) (ht:Lay w) :
    Calls prog 114 #[.agg (encT t).toArray] w fun v w'=>v=.returned (.bool (tmT t))/\Below w.heap.size w w':=by
 obtain ⟨k,x,e⟩:=t;obtain ⟨hx,he⟩:=h;simp only at hx he;have hs:=zbW e;have hz:=zab x;obtain ⟨wa,hwa⟩:∃wa,w.alloc (.cells #[.int .i64 k,.string (str x),.string (str e)] 62)=wa:=⟨_,rfl⟩;have hba:Below w.heap.size w wa:=(by rw[<-hwa];exact br.alloc nL _);have hL:=ht.below hba;have hcc:∀W,Below wa.heap.size wa W->W.cell? ⟨w.heap.size,0,none⟩=some (.int .i64 k)/\W.cell? ⟨w.heap.size,1,none⟩=some (.string (str x))/\W.cell? ⟨w.heap.size,2,none⟩=some (.string (str e)):=fun W hW=>by
  have h1:wa.heap[w.heap.size]?=some (.cells #[.int .i64 k,.string (str x),.string (str e)] 62 (0,0)):=(by rw[<-hwa];exact heap_alloc_new w _);have h2:=(hW.block _ (Array.getElem?_eq_some_iff.1 h1).1).trans h1;exact ⟨by rw[cell_of_heap h2];rfl,by rw[cell_of_heap h2];rfl,by rw[cell_of_heap h2];rfl⟩
 obtain ⟨c0,c1,c2⟩:=hcc wa br;have HCC:=hid hcc;have HBA:=hid hba;have HV:=hid (zat x wa hL hx);have HI:=hid fun W (hW:Below wa.heap.size wa W)=>zeH x W (hL.below hW) hx;have HE:=hid fun W (hW:Below wa.heap.size wa W)=>zeH e W (hL.below hW) he;have HLb:=hid fun W=>zgi x W hx;have HLa:=hid fun W=>zhw e W he;have d30:decide ((x.length:Int)<=30)=decide (x.length<=30):=decide_eq_decide.2 ⟨fun h=>by omega,fun h=>by omega⟩;have htx:txtT x=(decide (x.length<=30) && validD x):=rfl;have FIN:Hid (∀W,Below wa.heap.size wa W->Below w.heap.size w W):=fun W hW=>HBA.out.trans (hW.mono HBA.out.size);unfold encT;simp only;clear hcc hba hL ht hx he;generalize decide (x.length<=30)=y30 at d30 htx;generalize validD x=yv at HV htx;by_cases h1:k=1
 · subst h1;have hres:=tm_1 x e;rw[hres];clear hres htx;generalize iriT x=yx at HI ⊢;generalize decide (e=[])=ye at hs ⊢;cases yv<;>cases y30<;>cases yx
   all_goals
    go_enter func114,ntmps114
    go_wp2_with fail
    refine HV.out.mono ?_;rintro v w1 ⟨rfl,hb1⟩;obtain ⟨k0,k1,k2⟩:=HCC.out w1 hb1;have HB1:=hid hb1;clear hb1;go_wp2_with fail
    refine (HI.out _ HB1.out).mono ?_;rintro v w2 ⟨rfl,hb2⟩;have hb2':=HB1.out.trans (hb2.mono HB1.out.size);obtain ⟨k0',k1',k2'⟩:=HCC.out w2 hb2';have HB2:=hid hb2';clear hb2 hb2';go_wp2;go_ret;exact ⟨by first | rfl | simp,FIN.out _ HB2.out⟩
 have b1:(k == 1)=false:=(by rw[beq_eq_false_iff_ne];exact h1);by_cases h2:k=2
 · subst h2;have hres:=tm_2 x e;rw[hres];clear hres htx;generalize labT x=yx at HLb ⊢;generalize decide (e=[])=ye at hs ⊢;cases yv<;>cases y30<;>cases yx
   all_goals
    go_enter func114,ntmps114
    go_wp2_with fail
    refine HV.out.mono ?_;rintro v w1 ⟨rfl,hb1⟩;obtain ⟨k0,k1,k2⟩:=HCC.out w1 hb1;have HB1:=hid hb1;clear hb1;go_wp2_with fail
    refine (HLb.out _).mono ?_;rintro v w2 ⟨rfl,hb2⟩;have hb2':=HB1.out.trans (hb2.mono HB1.out.size);obtain ⟨k0',k1',k2'⟩:=HCC.out w2 hb2';have HB2:=hid hb2';clear hb2 hb2';go_wp2;go_ret;exact ⟨by first | rfl | simp,FIN.out _ HB2.out⟩
 have b2:(k == 2)=false:=(by rw[beq_eq_false_iff_ne];exact h2);by_cases h3:k=3
 · subst h3;have hres:=tm_3 x e;rw[hres,htx];clear hres htx;generalize decide (e=[])=ye at hs ⊢;cases yv<;>cases y30
   all_goals
    go_enter func114,ntmps114
    go_wp2_with fail
    refine HV.out.mono ?_;rintro v w1 ⟨rfl,hb1⟩;obtain ⟨k0,k1,k2⟩:=HCC.out w1 hb1;have HB1:=hid hb1;clear hb1;go_wp2;go_ret;exact ⟨by first | rfl | simp,FIN.out _ HB1.out⟩
 have b3:(k == 3)=false:=(by rw[beq_eq_false_iff_ne];exact h3);by_cases h4:k=4
 · subst h4;have hres:=tm_4 x e;rw[hres,htx];clear hres htx;generalize langT e=yx at HLa ⊢;cases yv<;>cases y30
   · go_enter func114,ntmps114
     go_wp2_with fail
     refine HV.out.mono ?_;rintro v w1 ⟨rfl,hb1⟩;obtain ⟨k0,k1,k2⟩:=HCC.out w1 hb1;have HB1:=hid hb1;clear hb1;go_wp2;go_ret;exact ⟨by first | rfl | simp,FIN.out _ HB1.out⟩
   · go_enter func114,ntmps114
     go_wp2_with fail
     refine HV.out.mono ?_;rintro v w1 ⟨rfl,hb1⟩;obtain ⟨k0,k1,k2⟩:=HCC.out w1 hb1;have HB1:=hid hb1;clear hb1;go_wp2;go_ret;exact ⟨by first | rfl | simp,FIN.out _ HB1.out⟩
   · go_enter func114,ntmps114
     go_wp2_with fail
     refine HV.out.mono ?_;rintro v w1 ⟨rfl,hb1⟩;obtain ⟨k0,k1,k2⟩:=HCC.out w1 hb1;have HB1:=hid hb1;clear hb1;go_wp2;go_ret;exact ⟨by first | rfl | simp,FIN.out _ HB1.out⟩
   · go_enter func114,ntmps114
     go_wp2_with fail
     refine HV.out.mono ?_;rintro v w1 ⟨rfl,hb1⟩;obtain ⟨k0,k1,k2⟩:=HCC.out w1 hb1;have HB1:=hid hb1;clear hb1;go_wp2_with fail
     refine (HLa.out _).mono ?_;rintro v w2 ⟨rfl,hb2⟩;have HB2:=hid (HB1.out.trans (hb2.mono HB1.out.size));clear hb2;go_wp2;go_ret;exact ⟨by first | rfl | simp,FIN.out _ HB2.out⟩
 have b4:(k == 4)=false:=(by rw[beq_eq_false_iff_ne];exact h4);by_cases h5:k=5
 · subst h5;have hres:=tm_5 x e;rw[hres,htx];clear hres htx;generalize iriT e=yx at HE ⊢;cases yv<;>cases y30
   · go_enter func114,ntmps114
     go_wp2_with fail
     refine HV.out.mono ?_;rintro v w1 ⟨rfl,hb1⟩;obtain ⟨k0,k1,k2⟩:=HCC.out w1 hb1;have HB1:=hid hb1;clear hb1;go_wp2;go_ret;exact ⟨by first | rfl | simp,FIN.out _ HB1.out⟩
   · go_enter func114,ntmps114
     go_wp2_with fail
     refine HV.out.mono ?_;rintro v w1 ⟨rfl,hb1⟩;obtain ⟨k0,k1,k2⟩:=HCC.out w1 hb1;have HB1:=hid hb1;clear hb1;go_wp2;go_ret;exact ⟨by first | rfl | simp,FIN.out _ HB1.out⟩
   · go_enter func114,ntmps114
     go_wp2_with fail
     refine HV.out.mono ?_;rintro v w1 ⟨rfl,hb1⟩;obtain ⟨k0,k1,k2⟩:=HCC.out w1 hb1;have HB1:=hid hb1;clear hb1;go_wp2;go_ret;exact ⟨by first | rfl | simp,FIN.out _ HB1.out⟩
   · go_enter func114,ntmps114
     go_wp2_with fail
     refine HV.out.mono ?_;rintro v w1 ⟨rfl,hb1⟩;obtain ⟨k0,k1,k2⟩:=HCC.out w1 hb1;have HB1:=hid hb1;clear hb1;go_wp2_with fail
     refine (HE.out _ HB1.out).mono ?_;rintro v w2 ⟨rfl,hb2⟩;have HB2:=hid (HB1.out.trans (hb2.mono HB1.out.size));clear hb2;go_wp2;go_ret;exact ⟨by first | rfl | simp,FIN.out _ HB2.out⟩
 have b5:(k == 5)=false:=(by rw[beq_eq_false_iff_ne];exact h5);rw[tm_no k x e h1 h2 h3 h4 h5];clear htx;cases yv<;>cases y30
 all_goals
  go_enter func114,ntmps114
  go_wp2_with fail
  refine HV.out.mono ?_;rintro v w1 ⟨rfl,hb1⟩;obtain ⟨k0,k1,k2⟩:=HCC.out w1 hb1;have HB1:=hid hb1;clear hb1;go_wp2;go_ret;exact ⟨rfl,FIN.out _ HB1.out⟩
theorem zjd (t:Tri) (h:SmlT t) (w:World) (ht:Lay w) :
    Calls prog 49 #[.agg (encTri t).toArray] w fun e w'=>e=.returned (.bool (triT t))/\Below w.heap.size w w':=by
 obtain ⟨⟨sk,sx,se⟩,⟨pk,px,pe⟩,⟨ok,ox,oe⟩⟩:=t;obtain ⟨hs,hp,ho⟩:=h;simp only at hs hp ho;have hL:=ht.below ((Below.refl w.heap.size w).alloc nL (.cells #[.int .i64 sk,.string (str sx),.string (str se),.int .i64 pk,.string (str px),.string (str pe),.int .i64 ok,.string (str ox),.string (str oe)] 110));have k0:∀i v,(#[.int .i64 sk,.string (str sx),.string (str se),.int .i64 pk,.string (str px),.string (str pe),.int .i64 ok,.string (str ox),.string (str oe)]:Array Value)[i]?=some v->(w.alloc (.cells #[.int .i64 sk,.string (str sx),.string (str se),.int .i64 pk,.string (str px),.string (str pe),.int .i64 ok,.string (str ox),.string (str oe)] 110)).cell? ⟨w.heap.size,i,none⟩=some v:=by
  intro i v hv;rw[cell_of_heap (heap_alloc_new w _)];exact hv
 have K0:=hid k0;have HS:=hid (zaM ⟨sk,sx,se⟩ hs _ hL);have HP:=hid fun W (hW:Below (w.alloc (.cells #[.int .i64 sk,.string (str sx),.string (str se),.int .i64 pk,.string (str px),.string (str pe),.int .i64 ok,.string (str ox),.string (str oe)] 110)).heap.size (w.alloc (.cells #[.int .i64 sk,.string (str sx),.string (str se),.int .i64 pk,.string (str px),.string (str pe),.int .i64 ok,.string (str ox),.string (str oe)] 110)) W)=>zaM ⟨pk,px,pe⟩ hp W (hL.below hW);have HO:=hid fun W (hW:Below (w.alloc (.cells #[.int .i64 sk,.string (str sx),.string (str se),.int .i64 pk,.string (str px),.string (str pe),.int .i64 ok,.string (str ox),.string (str oe)] 110)).heap.size (w.alloc (.cells #[.int .i64 sk,.string (str sx),.string (str se),.int .i64 pk,.string (str px),.string (str pe),.int .i64 ok,.string (str ox),.string (str oe)] 110)) W)=>zaM ⟨ok,ox,oe⟩ ho W (hL.below hW);unfold encT at HS HP HO;simp only at HS HP HO;unfold encTri encT triT;simp only[List.cons_append,List.nil_append];clear k0 hL hs hp ho ht;have hkk:tmT ⟨sk,sx,se⟩=true->(decide (sk=1) || decide (sk=2))=decide (sk<=2):=fun h=>by
  have:=(za8 _ h).kind;simp only at this;rcases this with rfl | rfl | rfl | rfl | rfl<;>rfl
 have HKK:=hid hkk;clear hkk;generalize tmT ⟨sk,sx,se⟩=y1 at HS HKK ⊢;generalize tmT ⟨pk,px,pe⟩=y2 at HP ⊢;generalize tmT ⟨ok,ox,oe⟩=y3 at HO ⊢;cases y1
 · go_enter func49,ntmps49
   go_wp2_with fail
   refine HS.out.mono ?_;rintro e1 w1 ⟨rfl,hb1⟩;go_wp2;go_ret;exact ⟨rfl,zar hb1⟩
 · cases y2
   · go_enter func49,ntmps49
     go_wp2_with fail
     refine HS.out.mono ?_;rintro e1 w1 ⟨rfl,hb1⟩;have d3:=zaa (K0.out 3 _ rfl) hb1;have d4:=zaa (K0.out 4 _ rfl) hb1;have d5:=zaa (K0.out 5 _ rfl) hb1;go_wp2_with fail
     refine (HP.out _ hb1).mono ?_;rintro e1 w2 ⟨rfl,hb2⟩;go_wp2;go_ret;exact ⟨rfl,zar (hb1.trans (hb2.mono hb1.size))⟩
   · cases y3
     · go_enter func49,ntmps49
       go_wp2_with fail
       refine HS.out.mono ?_;rintro e1 w1 ⟨rfl,hb1⟩;have d3:=zaa (K0.out 3 _ rfl) hb1;have d4:=zaa (K0.out 4 _ rfl) hb1;have d5:=zaa (K0.out 5 _ rfl) hb1;go_wp2_with fail
       refine (HP.out _ hb1).mono ?_;rintro e1 w2 ⟨rfl,hb2⟩;have hb2':=hb1.trans (hb2.mono hb1.size);have d6:=zaa (K0.out 6 _ rfl) hb2';have d7:=zaa (K0.out 7 _ rfl) hb2';have d8:=zaa (K0.out 8 _ rfl) hb2';go_wp2_with fail
       refine (HO.out _ hb2').mono ?_;rintro e1 w3 ⟨rfl,hb3⟩;go_wp2;go_ret;exact ⟨rfl,zar (hb2'.trans (hb3.mono hb2'.size))⟩
     · have q3:(pk == 1)=decide (pk=1):=rfl;rw[HKK.out rfl];obtain ⟨z1,hz1⟩:∃z1,decide (sk<=2)=z1:=⟨_,rfl⟩;rw[hz1];generalize decide (pk=1)=z3 at q3 ⊢;cases z1
       all_goals
        go_enter func49,ntmps49
        go_wp2_with fail
        refine HS.out.mono ?_;rintro e1 w1 ⟨rfl,hb1⟩;have d3:=zaa (K0.out 3 _ rfl) hb1;have d4:=zaa (K0.out 4 _ rfl) hb1;have d5:=zaa (K0.out 5 _ rfl) hb1;go_wp2_with fail
        refine (HP.out _ hb1).mono ?_;rintro e1 w2 ⟨rfl,hb2⟩;have hb2':=hb1.trans (hb2.mono hb1.size);have d6:=zaa (K0.out 6 _ rfl) hb2';have d7:=zaa (K0.out 7 _ rfl) hb2';have d8:=zaa (K0.out 8 _ rfl) hb2';go_wp2_with fail
        refine (HO.out _ hb2').mono ?_;rintro e1 w3 ⟨rfl,hb3⟩;have hb3':=hb2'.trans (hb3.mono hb2'.size);have f0:=zaa (K0.out 0 _ rfl) hb3';have f3:=zaa (K0.out 3 _ rfl) hb3';go_wp2;go_ret;exact ⟨by first | rfl | simp_all,zar hb3'⟩
end Go.Proofs.YtaeiifngjglchaaGreatDoor
end
