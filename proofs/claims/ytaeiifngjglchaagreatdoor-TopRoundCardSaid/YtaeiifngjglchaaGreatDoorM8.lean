/- Proved on the way: slices.symMergeCmpFunc at triples: the g; Sorted runs: plain Lean; slices.SortStableFunc at triples. Each theorem states its own conditions. -/
import Derived.Test.YtaeiifngjglchaaGreatDoorM7
set_option maxHeartbeats 16000000
set_option maxRecDepth 1000000
section
namespace Go.Proofs.YtaeiifngjglchaaGreatDoor
open Go.Proofs.Tryz
open Go.RowKit Go.Lib Go.Sort Mg
section
variable {α:Type} [Inhabited α]
def SymOK (k:Nat) (enc:α->List Value) (cf:α->α->Int) (g:Nat) (cb:Array Value) (blk off cap size:Nat) (w0:World) (N:Nat):Prop:=
 ∀(a m b:Nat) (d:Array α) (w:World),b-a<=N->d.size=size->SWK enc k w0 blk off d w->a<m->m<b->b<=d.size->SortedIn (ltOf cf) a m d->SortedIn (ltOf cf) m b d->
  Calls prog 221 #[.slice (some ⟨blk,off,none⟩) size cap,.int .i64 a,.int .i64 m,.int .i64 b,.func (.func g) #[] cb] w fun e w'=>e=.returned (.tuple #[])/\∃r,SWK enc k w0 blk off r w'/\Merged (ltOf cf) d r a b
theorem znw (k:Nat) (aE:∀w,(isAgg 110).run prog w=.ok true w) (zE:∀w,(Go.sizeOf 110).run prog w=.ok k w) (enc:α->List Value) (cf:α->α->Int) (hO:SWO (ltOf cf)) (g:Nat) (cb:Array Value) (blk off cap a m b:Nat) (d0 d:Array α) (w0 w:World)
    (eg:∀args w,(callFunc g args).run prog w=.ok (.enter g args) w) (hcmp:CmpLays prog g cb enc k cf blk off d.size w0) (R:RowK enc k w0 blk off d0) (hs:d0.size=d.size) (S:SWK enc k w0 blk off d w) (ham:a<m) (hmb:m<b) (hb:b<=d.size) (hsz:d.size<4611686018427387904)
    (hs1:SortedIn (ltOf cf) a m d) (hs2:SortedIn (ltOf cf) m b d) (h0:m≠a+1) (h1:b≠m+1) (IH:SymOK k enc cf g cb blk off cap d.size w0 (b-a-1)) :
    Calls prog 221 #[.slice (some ⟨blk,off,none⟩) d.size cap,.int .i64 a,.int .i64 m,.int .i64 b,.func (.func g) #[] cb] w fun e w'=>e=.returned (.tuple #[])/\∃r,SWK enc k w0 blk off r w'/\Merged (ltOf cf) d r a b:=by
 have mixed:=mixed;have HC:Aside _:=hcmp;have S0:Aside (SWK enc k w0 blk off d w):=S;have HS1:=hid hs1;have HS2:=hid hs2;have HO:=hid hO;clear S hcmp hs1 hs2 hO;have HIH:=hid IH;clear IH;obtain ⟨ma,hma⟩:∃ma,m-a=ma:=⟨_,rfl⟩;obtain ⟨bm,hbm⟩:∃bm,b-m=bm:=⟨_,rfl⟩;have e0:IntKind.i64.wrap ((m:Int)-(a:Int))=(ma:Int):=(wI (by omega));have e0n:((ma:Int) == 1)=false:=(by simp;omega);have e1:IntKind.i64.wrap ((b:Int)-(m:Int))=(bm:Int):=(wI (by omega));have e1n:((bm:Int) == 1)=false:=(by simp;omega);obtain ⟨mi,hmi⟩:∃mi:Nat,(a+b) / 2=mi:=⟨_,rfl⟩;obtain ⟨nn,hnn⟩:∃nn:Nat,mi+m=nn:=⟨_,rfl⟩;obtain ⟨pp,hpp⟩:∃pp:Nat,nn-1=pp:=⟨_,rfl⟩;have em1:((a:Int)+(b:Int)) / 2=(mi:Int):=(by omega);have em2:IntKind.i64.wrap ((a:Int)+(b:Int))=(a:Int)+(b:Int):=(wI (by omega));have en1:IntKind.i64.wrap ((mi:Int)+(m:Int))=(nn:Int):=(wI (by omega));have ep1:IntKind.i64.wrap ((nn:Int)-1)=(pp:Int):=(wI (by omega));by_cases hmm:mi<m
 · obtain ⟨s0,hs0⟩:∃s0:Nat,nn-b=s0:=⟨_,rfl⟩;have es0:IntKind.i64.wrap ((nn:Int)-(b:Int))=(s0:Int):=(wI (by omega));have hmz:(mi:Int)<(m:Int):=(by omega);go_enter func221,ntmps221
   go_wp2;go_loopg [20,21] (b-a) (fun kx s20 s21 wr=>∃(s r:Nat),s20=.int .i64 s/\s21=.int .i64 r/\s0<=s/\s<=r/\r<=mi/\r-s<=kx/\Aside (SWK enc k w0 blk off d wr)/\(s=s0\/ltOf cf d[nn-s]! d[s-1]! = false)/\(r=mi\/ltOf cf d[nn-1-r]! d[r]! = true))
   case atStart=>exact ⟨s0,mi,rfl,rfl,nL,by omega,nL,by omega,S0,.inl rfl,.inl rfl⟩
   case round=>
    clear S0;obtain ⟨s,r,rfl,rfl,hss,hsr,hrr,hg,S1,q1,q2⟩:=hrel;by_cases hlt:s<r
    · have hltz:(s:Int)<(r:Int):=(by omega);obtain ⟨c,hh⟩:∃c:Nat,(s+r) / 2=c:=⟨_,rfl⟩;have eh1:((s:Int)+(r:Int)) / 2=(c:Int):=(by omega);have eh2:IntKind.i64.wrap ((s:Int)+(r:Int))=(s:Int)+(r:Int):=(wI (by omega));obtain ⟨pc,hpc⟩:∃pc:Nat,pp-c=pc:=⟨_,rfl⟩;have epc:IntKind.i64.wrap ((pp:Int)-(c:Int))=(pc:Int):=(wI (by omega));cases hlv:ltOf cf d[pc]! d[c]! with
      | false=>
       have ea1:((pc:Int)).toNat=pc:=(by omega);have pa1:(0:Int)<=(pc:Int):=(by omega);have ba1:(pc:Int)<(d.size:Int):=(by omega);have ra1:IntKind.i64.wrap ((pc:Int))=(pc:Int):=(wI (by omega));have ec1:((c:Int)).toNat=c:=(by omega);have pc1:(0:Int)<=(c:Int):=(by omega);have bc1:(c:Int)<(d.size:Int):=(by omega);have rc1:IntKind.i64.wrap ((c:Int))=(c:Int):=(wI (by omega));obtain ⟨x1,hx1⟩:∃x,x=d[pc]!:=⟨_,rfl⟩;obtain ⟨y1,hy1⟩:∃x,x=d[c]!:=⟨_,rfl⟩;have l1a:=S1.out.ld R (by omega) prog (pc) (by omega);have l1b:=S1.out.ld R (by omega) prog (c) (by omega);rw[<-hx1]at l1a;rw[<-hy1]at l1b;have hc1:=S1.out.cmp HC.out (by omega) x1 y1;have hv1:¬cf x1 y1<0:=(by rw[hx1,hy1];exact of_decide_eq_false hlv);have hd1:decide (cf x1 y1<0)=false:=dF hv1;clear hx1 hy1;go_wp2_with fail
       go_quiet_grown (first | (go_at_fn g;refine Calls.grown_of (hc1 _ _)))
       have S2:Aside (SWK enc k w0 blk off d (grow (wr.drewN nq) osq)):=S1.out.grown nq osq;clear l1a l1b hc1 S1;generalize grow (wr.drewN nq) osq=w2 at S2 ⊢;clear nq osq;go_wp2;go_roundg (r-(c+1))
       case measure=>omega
       case rel=>exact ⟨c+1,r,by go_num,rfl,by omega,by omega,hrr,nL,S2,.inr (by rw[Nat.add_sub_cancel,show nn-(c+1)=pc from by omega];exact hlv),q2⟩
      | true=>
       have ea1:((pc:Int)).toNat=pc:=(by omega);have pa1:(0:Int)<=(pc:Int):=(by omega);have ba1:(pc:Int)<(d.size:Int):=(by omega);have ra1:IntKind.i64.wrap ((pc:Int))=(pc:Int):=(wI (by omega));have ec1:((c:Int)).toNat=c:=(by omega);have pc1:(0:Int)<=(c:Int):=(by omega);have bc1:(c:Int)<(d.size:Int):=(by omega);have rc1:IntKind.i64.wrap ((c:Int))=(c:Int):=(wI (by omega));obtain ⟨x1,hx1⟩:∃x,x=d[pc]!:=⟨_,rfl⟩;obtain ⟨y1,hy1⟩:∃x,x=d[c]!:=⟨_,rfl⟩;have l1a:=S1.out.ld R (by omega) prog (pc) (by omega);have l1b:=S1.out.ld R (by omega) prog (c) (by omega);rw[<-hx1]at l1a;rw[<-hy1]at l1b;have hc1:=S1.out.cmp HC.out (by omega) x1 y1;have hv1:cf x1 y1<0:=(by rw[hx1,hy1];exact oT hlv);have hd1:decide (cf x1 y1<0)=true:=dT hv1;clear hx1 hy1;go_wp2_with fail
       go_quiet_grown (first | (go_at_fn g;refine Calls.grown_of (hc1 _ _)))
       have S2:Aside (SWK enc k w0 blk off d (grow (wr.drewN nq) osq)):=S1.out.grown nq osq;clear l1a l1b hc1 S1;generalize grow (wr.drewN nq) osq=w2 at S2 ⊢;clear nq osq;go_wp2;go_roundg (c-s)
       case measure=>omega
       case rel=>exact ⟨s,c,rfl,rfl,hss,by omega,by omega,nL,S2,q1,.inr (by rw[show nn-1-c=pc from by omega];exact hlv)⟩
    · obtain rfl:s=r:=(by omega);obtain ⟨en,hen⟩:∃en:Nat,nn-s=en:=⟨_,rfl⟩;have een:IntKind.i64.wrap ((nn:Int)-(s:Int))=(en:Int):=(wI (by omega));have hcut:Cut (ltOf cf) d a m b s en:=by
       refine ⟨by omega,by omega,by omega,by omega,hb,HS1.out,HS2.out,?_,?_⟩
       · rcases q1 with q1 | q1
         · first | exact .inl q1 | exact .inr (.inl (by omega))
         · rw[hen]at q1;exact .inr (.inr q1)
       · rcases q2 with q2 | q2
         · first | exact .inl q2 | exact .inr (.inl (by omega))
         · rw[show nn-1-s=en-1 from by omega]at q2;exact .inr (.inr q2)
      have hsm:s+(en-m)=mi:=(by omega);have HCUT:=hid hcut;clear q1 q2 hcut;by_cases hc1:s<m/\m<en
      · have hc1a:(s:Int)<(m:Int):=(by omega);have hc1b:(m:Int)<(en:Int):=(by omega);have HC1:=hid (zcJ k aE zE enc (.func (.func g) #[] cb) blk off cap s m en d0 d w0 wr R hs S1.out hc1.1 hc1.2 (by have:=HCUT.out.eb;omega) hsz);clear S1;go_wp2_with fail
        all_goals
         refine HC1.out.mono ?_;rintro e w3 ⟨rfl,r1,S4,hro⟩;have S4':Aside _:=S4;have HR:=hid hro;clear S4 hro;have hlf:=HCUT.out.left HR.out;rw[hsm]at hlf;have hz1:=HR.out.map.1;by_cases hc2:a<s/\s<mi
         · have hc2a:(a:Int)<(s:Int):=(by omega);have hc2b:(s:Int)<(mi:Int):=(by omega);have HC2:=hid (HIH.out a s mi r1 w3 (by omega) hz1 S4'.out hc2.1 hc2.2 (by omega) hlf.1 hlf.2);clear hlf S4';go_wp2_with fail
           all_goals
            refine HC2.out.mono ?_;rintro e w4 ⟨rfl,r2,S5,hm2⟩;have S5':Aside _:=S5;have HL:=hid hm2;clear S5 hm2;have hrt:=HCUT.out.right HR.out (hsm ▸ HL.out.2.1);rw[hsm]at hrt;have hz2:=HL.out.1.trans HR.out.map.1;by_cases hc3:mi<en/\en<b
            · have hc3a:(mi:Int)<(en:Int):=(by omega);have hc3b:(en:Int)<(b:Int):=(by omega);have HC3:=hid (HIH.out mi en b r2 w4 (by omega) hz2 S5'.out hc3.1 hc3.2 (by omega) hrt.1 hrt.2);clear hrt S5';go_wp2_with fail
              all_goals
               refine HC3.out.mono ?_;rintro e w5 ⟨rfl,r3,S3,hm3⟩;have S3':Aside _:=S3;have HM3:=hid hm3;clear S3 hm3;go_wp2;all_goals go_end0
               all_goals exact ⟨rfl,r3,S3'.out,HCUT.out.merged HO.out HR.out (hsm ▸ HL.out) (hsm ▸ HM3.out)⟩
            · have hm3:Merged (ltOf cf) r2 r2 mi b:=Merged.of_sorted (by
               by_cases h9:mi<en
               · have:en=b:=(by have:=HCUT.out.eb;omega);rw[this]at hrt;exact hrt.1
               · have:en=mi:=(by omega);rw[this]at hrt;exact hrt.2)
              have HM3:=hid hm3;have heb:=HCUT.out.eb;clear hm3 hrt;by_cases hc3a:mi<en
              · have hc3z:(mi:Int)<(en:Int):=(by omega);have hc3y:¬(en:Int)<(b:Int):=(by omega);go_wp2;all_goals go_end0
                all_goals exact ⟨rfl,r2,S5'.out,HCUT.out.merged HO.out HR.out (hsm ▸ HL.out) (hsm ▸ HM3.out)⟩
              · have hc3z:¬(mi:Int)<(en:Int):=(by omega);go_wp2;all_goals go_end0
                all_goals exact ⟨rfl,r2,S5'.out,HCUT.out.merged HO.out HR.out (hsm ▸ HL.out) (hsm ▸ HM3.out)⟩
         · have hm2:Merged (ltOf cf) r1 r1 a mi:=Merged.of_sorted (by
            by_cases h9:a<s
            · have:s=mi:=(by have:=HCUT.out.me;omega);rw[this]at hlf;exact hlf.1
            · have:s=a:=(by have:=HCUT.out.as;omega);rw[this]at hlf;exact hlf.2)
           have HL:=hid hm2;have hme:=HCUT.out.me;clear hm2 hlf;by_cases hc2a:a<s
           · have hc2z:(a:Int)<(s:Int):=(by omega);have hc2y:¬(s:Int)<(mi:Int):=(by omega);have hrt:=HCUT.out.right HR.out (hsm ▸ HL.out.2.1);rw[hsm]at hrt;have hz2:=HL.out.1.trans HR.out.map.1;by_cases hc3:mi<en/\en<b
             · have hc3a:(mi:Int)<(en:Int):=(by omega);have hc3b:(en:Int)<(b:Int):=(by omega);have HC3:=hid (HIH.out mi en b r1 w3 (by omega) hz2 S4'.out hc3.1 hc3.2 (by omega) hrt.1 hrt.2);clear hrt S4';go_wp2_with fail
               all_goals
                refine HC3.out.mono ?_;rintro e w5 ⟨rfl,r3,S3,hm3⟩;have S3':Aside _:=S3;have HM3:=hid hm3;clear S3 hm3;go_wp2;all_goals go_end0
                all_goals exact ⟨rfl,r3,S3'.out,HCUT.out.merged HO.out HR.out (hsm ▸ HL.out) (hsm ▸ HM3.out)⟩
             · have hm3:Merged (ltOf cf) r1 r1 mi b:=Merged.of_sorted (by
                by_cases h9:mi<en
                · have:en=b:=(by have:=HCUT.out.eb;omega);rw[this]at hrt;exact hrt.1
                · have:en=mi:=(by omega);rw[this]at hrt;exact hrt.2)
               have HM3:=hid hm3;have heb:=HCUT.out.eb;clear hm3 hrt;by_cases hc3a:mi<en
               · have hc3z:(mi:Int)<(en:Int):=(by omega);have hc3y:¬(en:Int)<(b:Int):=(by omega);go_wp2;all_goals go_end0
                 all_goals exact ⟨rfl,r1,S4'.out,HCUT.out.merged HO.out HR.out (hsm ▸ HL.out) (hsm ▸ HM3.out)⟩
               · have hc3z:¬(mi:Int)<(en:Int):=(by omega);go_wp2;all_goals go_end0
                 all_goals exact ⟨rfl,r1,S4'.out,HCUT.out.merged HO.out HR.out (hsm ▸ HL.out) (hsm ▸ HM3.out)⟩
           · have hc2z:¬(a:Int)<(s:Int):=(by omega);have hrt:=HCUT.out.right HR.out (hsm ▸ HL.out.2.1);rw[hsm]at hrt;have hz2:=HL.out.1.trans HR.out.map.1;by_cases hc3:mi<en/\en<b
             · have hc3a:(mi:Int)<(en:Int):=(by omega);have hc3b:(en:Int)<(b:Int):=(by omega);have HC3:=hid (HIH.out mi en b r1 w3 (by omega) hz2 S4'.out hc3.1 hc3.2 (by omega) hrt.1 hrt.2);clear hrt S4';go_wp2_with fail
               all_goals
                refine HC3.out.mono ?_;rintro e w5 ⟨rfl,r3,S3,hm3⟩;have S3':Aside _:=S3;have HM3:=hid hm3;clear S3 hm3;go_wp2;all_goals go_end0
                all_goals exact ⟨rfl,r3,S3'.out,HCUT.out.merged HO.out HR.out (hsm ▸ HL.out) (hsm ▸ HM3.out)⟩
             · have hm3:Merged (ltOf cf) r1 r1 mi b:=Merged.of_sorted (by
                by_cases h9:mi<en
                · have:en=b:=(by have:=HCUT.out.eb;omega);rw[this]at hrt;exact hrt.1
                · have:en=mi:=(by omega);rw[this]at hrt;exact hrt.2)
               have HM3:=hid hm3;have heb:=HCUT.out.eb;clear hm3 hrt;by_cases hc3a:mi<en
               · have hc3z:(mi:Int)<(en:Int):=(by omega);have hc3y:¬(en:Int)<(b:Int):=(by omega);go_wp2;all_goals go_end0
                 all_goals exact ⟨rfl,r1,S4'.out,HCUT.out.merged HO.out HR.out (hsm ▸ HL.out) (hsm ▸ HM3.out)⟩
               · have hc3z:¬(mi:Int)<(en:Int):=(by omega);go_wp2;all_goals go_end0
                 all_goals exact ⟨rfl,r1,S4'.out,HCUT.out.merged HO.out HR.out (hsm ▸ HL.out) (hsm ▸ HM3.out)⟩
      · have hro:Rotated d d s m en:=by
         have h8:=HCUT.out.sm;have h9:=HCUT.out.me;by_cases h7:s<m
         · have:m=en:=(by omega);rw[<-this];exact Rotated.none_right d s m
         · have:s=m:=(by omega);rw[this];exact Rotated.none_left d m en
        have HR:=hid hro;clear hro;by_cases hc1a:s<m
        · have hc1z:(s:Int)<(m:Int):=(by omega);have hc1y:¬(m:Int)<(en:Int):=(by omega);have hlf:=HCUT.out.left HR.out;rw[hsm]at hlf;have hz1:=HR.out.map.1;by_cases hc2:a<s/\s<mi
          · have hc2a:(a:Int)<(s:Int):=(by omega);have hc2b:(s:Int)<(mi:Int):=(by omega);have HC2:=hid (HIH.out a s mi d wr (by omega) hz1 S1.out hc2.1 hc2.2 (by omega) hlf.1 hlf.2);clear hlf S1;go_wp2_with fail
            all_goals
             refine HC2.out.mono ?_;rintro e w4 ⟨rfl,r2,S5,hm2⟩;have S5':Aside _:=S5;have HL:=hid hm2;clear S5 hm2;have hrt:=HCUT.out.right HR.out (hsm ▸ HL.out.2.1);rw[hsm]at hrt;have hz2:=HL.out.1.trans HR.out.map.1;by_cases hc3:mi<en/\en<b
             · have hc3a:(mi:Int)<(en:Int):=(by omega);have hc3b:(en:Int)<(b:Int):=(by omega);have HC3:=hid (HIH.out mi en b r2 w4 (by omega) hz2 S5'.out hc3.1 hc3.2 (by omega) hrt.1 hrt.2);clear hrt S5';go_wp2_with fail
               all_goals
                refine HC3.out.mono ?_;rintro e w5 ⟨rfl,r3,S3,hm3⟩;have S3':Aside _:=S3;have HM3:=hid hm3;clear S3 hm3;go_wp2;all_goals go_end0
                all_goals exact ⟨rfl,r3,S3'.out,HCUT.out.merged HO.out HR.out (hsm ▸ HL.out) (hsm ▸ HM3.out)⟩
             · have hm3:Merged (ltOf cf) r2 r2 mi b:=Merged.of_sorted (by
                by_cases h9:mi<en
                · have:en=b:=(by have:=HCUT.out.eb;omega);rw[this]at hrt;exact hrt.1
                · have:en=mi:=(by omega);rw[this]at hrt;exact hrt.2)
               have HM3:=hid hm3;have heb:=HCUT.out.eb;clear hm3 hrt;by_cases hc3a:mi<en
               · have hc3z:(mi:Int)<(en:Int):=(by omega);have hc3y:¬(en:Int)<(b:Int):=(by omega);go_wp2;all_goals go_end0
                 all_goals exact ⟨rfl,r2,S5'.out,HCUT.out.merged HO.out HR.out (hsm ▸ HL.out) (hsm ▸ HM3.out)⟩
               · have hc3z:¬(mi:Int)<(en:Int):=(by omega);go_wp2;all_goals go_end0
                 all_goals exact ⟨rfl,r2,S5'.out,HCUT.out.merged HO.out HR.out (hsm ▸ HL.out) (hsm ▸ HM3.out)⟩
          · have hm2:Merged (ltOf cf) d d a mi:=Merged.of_sorted (by
             by_cases h9:a<s
             · have:s=mi:=(by have:=HCUT.out.me;omega);rw[this]at hlf;exact hlf.1
             · have:s=a:=(by have:=HCUT.out.as;omega);rw[this]at hlf;exact hlf.2)
            have HL:=hid hm2;have hme:=HCUT.out.me;clear hm2 hlf;by_cases hc2a:a<s
            · have hc2z:(a:Int)<(s:Int):=(by omega);have hc2y:¬(s:Int)<(mi:Int):=(by omega);have hrt:=HCUT.out.right HR.out (hsm ▸ HL.out.2.1);rw[hsm]at hrt;have hz2:=HL.out.1.trans HR.out.map.1;by_cases hc3:mi<en/\en<b
              · have hc3a:(mi:Int)<(en:Int):=(by omega);have hc3b:(en:Int)<(b:Int):=(by omega);have HC3:=hid (HIH.out mi en b d wr (by omega) hz2 S1.out hc3.1 hc3.2 (by omega) hrt.1 hrt.2);clear hrt S1;go_wp2_with fail
                all_goals
                 refine HC3.out.mono ?_;rintro e w5 ⟨rfl,r3,S3,hm3⟩;have S3':Aside _:=S3;have HM3:=hid hm3;clear S3 hm3;go_wp2;all_goals go_end0
                 all_goals exact ⟨rfl,r3,S3'.out,HCUT.out.merged HO.out HR.out (hsm ▸ HL.out) (hsm ▸ HM3.out)⟩
              · have hm3:Merged (ltOf cf) d d mi b:=Merged.of_sorted (by
                 by_cases h9:mi<en
                 · have:en=b:=(by have:=HCUT.out.eb;omega);rw[this]at hrt;exact hrt.1
                 · have:en=mi:=(by omega);rw[this]at hrt;exact hrt.2)
                have HM3:=hid hm3;have heb:=HCUT.out.eb;clear hm3 hrt;by_cases hc3a:mi<en
                · have hc3z:(mi:Int)<(en:Int):=(by omega);have hc3y:¬(en:Int)<(b:Int):=(by omega);go_wp2;all_goals go_end0
                  all_goals exact ⟨rfl,d,S1.out,HCUT.out.merged HO.out HR.out (hsm ▸ HL.out) (hsm ▸ HM3.out)⟩
                · have hc3z:¬(mi:Int)<(en:Int):=(by omega);go_wp2;all_goals go_end0
                  all_goals exact ⟨rfl,d,S1.out,HCUT.out.merged HO.out HR.out (hsm ▸ HL.out) (hsm ▸ HM3.out)⟩
            · have hc2z:¬(a:Int)<(s:Int):=(by omega);have hrt:=HCUT.out.right HR.out (hsm ▸ HL.out.2.1);rw[hsm]at hrt;have hz2:=HL.out.1.trans HR.out.map.1;by_cases hc3:mi<en/\en<b
              · have hc3a:(mi:Int)<(en:Int):=(by omega);have hc3b:(en:Int)<(b:Int):=(by omega);have HC3:=hid (HIH.out mi en b d wr (by omega) hz2 S1.out hc3.1 hc3.2 (by omega) hrt.1 hrt.2);clear hrt S1;go_wp2_with fail
                all_goals
                 refine HC3.out.mono ?_;rintro e w5 ⟨rfl,r3,S3,hm3⟩;have S3':Aside _:=S3;have HM3:=hid hm3;clear S3 hm3;go_wp2;all_goals go_end0
                 all_goals exact ⟨rfl,r3,S3'.out,HCUT.out.merged HO.out HR.out (hsm ▸ HL.out) (hsm ▸ HM3.out)⟩
              · have hm3:Merged (ltOf cf) d d mi b:=Merged.of_sorted (by
                 by_cases h9:mi<en
                 · have:en=b:=(by have:=HCUT.out.eb;omega);rw[this]at hrt;exact hrt.1
                 · have:en=mi:=(by omega);rw[this]at hrt;exact hrt.2)
                have HM3:=hid hm3;have heb:=HCUT.out.eb;clear hm3 hrt;by_cases hc3a:mi<en
                · have hc3z:(mi:Int)<(en:Int):=(by omega);have hc3y:¬(en:Int)<(b:Int):=(by omega);go_wp2;all_goals go_end0
                  all_goals exact ⟨rfl,d,S1.out,HCUT.out.merged HO.out HR.out (hsm ▸ HL.out) (hsm ▸ HM3.out)⟩
                · have hc3z:¬(mi:Int)<(en:Int):=(by omega);go_wp2;all_goals go_end0
                  all_goals exact ⟨rfl,d,S1.out,HCUT.out.merged HO.out HR.out (hsm ▸ HL.out) (hsm ▸ HM3.out)⟩
        · have hc1z:¬(s:Int)<(m:Int):=(by omega);have hlf:=HCUT.out.left HR.out;rw[hsm]at hlf;have hz1:=HR.out.map.1;by_cases hc2:a<s/\s<mi
          · have hc2a:(a:Int)<(s:Int):=(by omega);have hc2b:(s:Int)<(mi:Int):=(by omega);have HC2:=hid (HIH.out a s mi d wr (by omega) hz1 S1.out hc2.1 hc2.2 (by omega) hlf.1 hlf.2);clear hlf S1;go_wp2_with fail
            all_goals
             refine HC2.out.mono ?_;rintro e w4 ⟨rfl,r2,S5,hm2⟩;have S5':Aside _:=S5;have HL:=hid hm2;clear S5 hm2;have hrt:=HCUT.out.right HR.out (hsm ▸ HL.out.2.1);rw[hsm]at hrt;have hz2:=HL.out.1.trans HR.out.map.1;by_cases hc3:mi<en/\en<b
             · have hc3a:(mi:Int)<(en:Int):=(by omega);have hc3b:(en:Int)<(b:Int):=(by omega);have HC3:=hid (HIH.out mi en b r2 w4 (by omega) hz2 S5'.out hc3.1 hc3.2 (by omega) hrt.1 hrt.2);clear hrt S5';go_wp2_with fail
               all_goals
                refine HC3.out.mono ?_;rintro e w5 ⟨rfl,r3,S3,hm3⟩;have S3':Aside _:=S3;have HM3:=hid hm3;clear S3 hm3;go_wp2;all_goals go_end0
                all_goals exact ⟨rfl,r3,S3'.out,HCUT.out.merged HO.out HR.out (hsm ▸ HL.out) (hsm ▸ HM3.out)⟩
             · have hm3:Merged (ltOf cf) r2 r2 mi b:=Merged.of_sorted (by
                by_cases h9:mi<en
                · have:en=b:=(by have:=HCUT.out.eb;omega);rw[this]at hrt;exact hrt.1
                · have:en=mi:=(by omega);rw[this]at hrt;exact hrt.2)
               have HM3:=hid hm3;have heb:=HCUT.out.eb;clear hm3 hrt;by_cases hc3a:mi<en
               · have hc3z:(mi:Int)<(en:Int):=(by omega);have hc3y:¬(en:Int)<(b:Int):=(by omega);go_wp2;all_goals go_end0
                 all_goals exact ⟨rfl,r2,S5'.out,HCUT.out.merged HO.out HR.out (hsm ▸ HL.out) (hsm ▸ HM3.out)⟩
               · have hc3z:¬(mi:Int)<(en:Int):=(by omega);go_wp2;all_goals go_end0
                 all_goals exact ⟨rfl,r2,S5'.out,HCUT.out.merged HO.out HR.out (hsm ▸ HL.out) (hsm ▸ HM3.out)⟩
          · have hm2:Merged (ltOf cf) d d a mi:=Merged.of_sorted (by
             by_cases h9:a<s
             · have:s=mi:=(by have:=HCUT.out.me;omega);rw[this]at hlf;exact hlf.1
             · have:s=a:=(by have:=HCUT.out.as;omega);rw[this]at hlf;exact hlf.2)
            have HL:=hid hm2;have hme:=HCUT.out.me;clear hm2 hlf;by_cases hc2a:a<s
            · have hc2z:(a:Int)<(s:Int):=(by omega);have hc2y:¬(s:Int)<(mi:Int):=(by omega);have hrt:=HCUT.out.right HR.out (hsm ▸ HL.out.2.1);rw[hsm]at hrt;have hz2:=HL.out.1.trans HR.out.map.1;by_cases hc3:mi<en/\en<b
              · have hc3a:(mi:Int)<(en:Int):=(by omega);have hc3b:(en:Int)<(b:Int):=(by omega);have HC3:=hid (HIH.out mi en b d wr (by omega) hz2 S1.out hc3.1 hc3.2 (by omega) hrt.1 hrt.2);clear hrt S1;go_wp2_with fail
                all_goals
                 refine HC3.out.mono ?_;rintro e w5 ⟨rfl,r3,S3,hm3⟩;have S3':Aside _:=S3;have HM3:=hid hm3;clear S3 hm3;go_wp2;all_goals go_end0
                 all_goals exact ⟨rfl,r3,S3'.out,HCUT.out.merged HO.out HR.out (hsm ▸ HL.out) (hsm ▸ HM3.out)⟩
              · have hm3:Merged (ltOf cf) d d mi b:=Merged.of_sorted (by
                 by_cases h9:mi<en
                 · have:en=b:=(by have:=HCUT.out.eb;omega);rw[this]at hrt;exact hrt.1
                 · have:en=mi:=(by omega);rw[this]at hrt;exact hrt.2)
                have HM3:=hid hm3;have heb:=HCUT.out.eb;clear hm3 hrt;by_cases hc3a:mi<en
                · have hc3z:(mi:Int)<(en:Int):=(by omega);have hc3y:¬(en:Int)<(b:Int):=(by omega);go_wp2;all_goals go_end0
                  all_goals exact ⟨rfl,d,S1.out,HCUT.out.merged HO.out HR.out (hsm ▸ HL.out) (hsm ▸ HM3.out)⟩
                · have hc3z:¬(mi:Int)<(en:Int):=(by omega);go_wp2;all_goals go_end0
                  all_goals exact ⟨rfl,d,S1.out,HCUT.out.merged HO.out HR.out (hsm ▸ HL.out) (hsm ▸ HM3.out)⟩
            · have hc2z:¬(a:Int)<(s:Int):=(by omega);have hrt:=HCUT.out.right HR.out (hsm ▸ HL.out.2.1);rw[hsm]at hrt;have hz2:=HL.out.1.trans HR.out.map.1;by_cases hc3:mi<en/\en<b
              · have hc3a:(mi:Int)<(en:Int):=(by omega);have hc3b:(en:Int)<(b:Int):=(by omega);have HC3:=hid (HIH.out mi en b d wr (by omega) hz2 S1.out hc3.1 hc3.2 (by omega) hrt.1 hrt.2);clear hrt S1;go_wp2_with fail
                all_goals
                 refine HC3.out.mono ?_;rintro e w5 ⟨rfl,r3,S3,hm3⟩;have S3':Aside _:=S3;have HM3:=hid hm3;clear S3 hm3;go_wp2;all_goals go_end0
                 all_goals exact ⟨rfl,r3,S3'.out,HCUT.out.merged HO.out HR.out (hsm ▸ HL.out) (hsm ▸ HM3.out)⟩
              · have hm3:Merged (ltOf cf) d d mi b:=Merged.of_sorted (by
                 by_cases h9:mi<en
                 · have:en=b:=(by have:=HCUT.out.eb;omega);rw[this]at hrt;exact hrt.1
                 · have:en=mi:=(by omega);rw[this]at hrt;exact hrt.2)
                have HM3:=hid hm3;have heb:=HCUT.out.eb;clear hm3 hrt;by_cases hc3a:mi<en
                · have hc3z:(mi:Int)<(en:Int):=(by omega);have hc3y:¬(en:Int)<(b:Int):=(by omega);go_wp2;all_goals go_end0
                  all_goals exact ⟨rfl,d,S1.out,HCUT.out.merged HO.out HR.out (hsm ▸ HL.out) (hsm ▸ HM3.out)⟩
                · have hc3z:¬(mi:Int)<(en:Int):=(by omega);go_wp2;all_goals go_end0
                  all_goals exact ⟨rfl,d,S1.out,HCUT.out.merged HO.out HR.out (hsm ▸ HL.out) (hsm ▸ HM3.out)⟩
 · have hmz:¬(mi:Int)<(m:Int):=(by omega);go_enter func221,ntmps221
   go_wp2;go_loopg [20,21] (b-a) (fun kx s20 s21 wr=>∃(s r:Nat),s20=.int .i64 s/\s21=.int .i64 r/\a<=s/\s<=r/\r<=m/\r-s<=kx/\Aside (SWK enc k w0 blk off d wr)/\(s=a\/ltOf cf d[nn-s]! d[s-1]! = false)/\(r=m\/ltOf cf d[nn-1-r]! d[r]! = true))
   case atStart=>exact ⟨a,m,rfl,rfl,nL,by omega,nL,by omega,S0,.inl rfl,.inl rfl⟩
   case round=>
    clear S0;obtain ⟨s,r,rfl,rfl,hss,hsr,hrr,hg,S1,q1,q2⟩:=hrel;by_cases hlt:s<r
    · have hltz:(s:Int)<(r:Int):=(by omega);obtain ⟨c,hh⟩:∃c:Nat,(s+r) / 2=c:=⟨_,rfl⟩;have eh1:((s:Int)+(r:Int)) / 2=(c:Int):=(by omega);have eh2:IntKind.i64.wrap ((s:Int)+(r:Int))=(s:Int)+(r:Int):=(wI (by omega));obtain ⟨pc,hpc⟩:∃pc:Nat,pp-c=pc:=⟨_,rfl⟩;have epc:IntKind.i64.wrap ((pp:Int)-(c:Int))=(pc:Int):=(wI (by omega));cases hlv:ltOf cf d[pc]! d[c]! with
      | false=>
       have ea1:((pc:Int)).toNat=pc:=(by omega);have pa1:(0:Int)<=(pc:Int):=(by omega);have ba1:(pc:Int)<(d.size:Int):=(by omega);have ra1:IntKind.i64.wrap ((pc:Int))=(pc:Int):=(wI (by omega));have ec1:((c:Int)).toNat=c:=(by omega);have pc1:(0:Int)<=(c:Int):=(by omega);have bc1:(c:Int)<(d.size:Int):=(by omega);have rc1:IntKind.i64.wrap ((c:Int))=(c:Int):=(wI (by omega));obtain ⟨x1,hx1⟩:∃x,x=d[pc]!:=⟨_,rfl⟩;obtain ⟨y1,hy1⟩:∃x,x=d[c]!:=⟨_,rfl⟩;have l1a:=S1.out.ld R (by omega) prog (pc) (by omega);have l1b:=S1.out.ld R (by omega) prog (c) (by omega);rw[<-hx1]at l1a;rw[<-hy1]at l1b;have hc1:=S1.out.cmp HC.out (by omega) x1 y1;have hv1:¬cf x1 y1<0:=(by rw[hx1,hy1];exact of_decide_eq_false hlv);have hd1:decide (cf x1 y1<0)=false:=dF hv1;clear hx1 hy1;go_wp2_with fail
       go_quiet_grown (first | (go_at_fn g;refine Calls.grown_of (hc1 _ _)))
       have S2:Aside (SWK enc k w0 blk off d (grow (wr.drewN nq) osq)):=S1.out.grown nq osq;clear l1a l1b hc1 S1;generalize grow (wr.drewN nq) osq=w2 at S2 ⊢;clear nq osq;go_wp2;go_roundg (r-(c+1))
       case measure=>omega
       case rel=>exact ⟨c+1,r,by go_num,rfl,by omega,by omega,hrr,nL,S2,.inr (by rw[Nat.add_sub_cancel,show nn-(c+1)=pc from by omega];exact hlv),q2⟩
      | true=>
       have ea1:((pc:Int)).toNat=pc:=(by omega);have pa1:(0:Int)<=(pc:Int):=(by omega);have ba1:(pc:Int)<(d.size:Int):=(by omega);have ra1:IntKind.i64.wrap ((pc:Int))=(pc:Int):=(wI (by omega));have ec1:((c:Int)).toNat=c:=(by omega);have pc1:(0:Int)<=(c:Int):=(by omega);have bc1:(c:Int)<(d.size:Int):=(by omega);have rc1:IntKind.i64.wrap ((c:Int))=(c:Int):=(wI (by omega));obtain ⟨x1,hx1⟩:∃x,x=d[pc]!:=⟨_,rfl⟩;obtain ⟨y1,hy1⟩:∃x,x=d[c]!:=⟨_,rfl⟩;have l1a:=S1.out.ld R (by omega) prog (pc) (by omega);have l1b:=S1.out.ld R (by omega) prog (c) (by omega);rw[<-hx1]at l1a;rw[<-hy1]at l1b;have hc1:=S1.out.cmp HC.out (by omega) x1 y1;have hv1:cf x1 y1<0:=(by rw[hx1,hy1];exact oT hlv);have hd1:decide (cf x1 y1<0)=true:=dT hv1;clear hx1 hy1;go_wp2_with fail
       go_quiet_grown (first | (go_at_fn g;refine Calls.grown_of (hc1 _ _)))
       have S2:Aside (SWK enc k w0 blk off d (grow (wr.drewN nq) osq)):=S1.out.grown nq osq;clear l1a l1b hc1 S1;generalize grow (wr.drewN nq) osq=w2 at S2 ⊢;clear nq osq;go_wp2;go_roundg (c-s)
       case measure=>omega
       case rel=>exact ⟨s,c,rfl,rfl,hss,by omega,by omega,nL,S2,q1,.inr (by rw[show nn-1-c=pc from by omega];exact hlv)⟩
    · obtain rfl:s=r:=(by omega);obtain ⟨en,hen⟩:∃en:Nat,nn-s=en:=⟨_,rfl⟩;have een:IntKind.i64.wrap ((nn:Int)-(s:Int))=(en:Int):=(wI (by omega));have hcut:Cut (ltOf cf) d a m b s en:=by
       refine ⟨by omega,by omega,by omega,by omega,hb,HS1.out,HS2.out,?_,?_⟩
       · rcases q1 with q1 | q1
         · first | exact .inl q1 | exact .inr (.inl (by omega))
         · rw[hen]at q1;exact .inr (.inr q1)
       · rcases q2 with q2 | q2
         · first | exact .inl q2 | exact .inr (.inl (by omega))
         · rw[show nn-1-s=en-1 from by omega]at q2;exact .inr (.inr q2)
      have hsm:s+(en-m)=mi:=(by omega);have HCUT:=hid hcut;clear q1 q2 hcut;by_cases hc1:s<m/\m<en
      · have hc1a:(s:Int)<(m:Int):=(by omega);have hc1b:(m:Int)<(en:Int):=(by omega);have HC1:=hid (zcJ k aE zE enc (.func (.func g) #[] cb) blk off cap s m en d0 d w0 wr R hs S1.out hc1.1 hc1.2 (by have:=HCUT.out.eb;omega) hsz);clear S1;go_wp2_with fail
        all_goals
         refine HC1.out.mono ?_;rintro e w3 ⟨rfl,r1,S4,hro⟩;have S4':Aside _:=S4;have HR:=hid hro;clear S4 hro;have hlf:=HCUT.out.left HR.out;rw[hsm]at hlf;have hz1:=HR.out.map.1;by_cases hc2:a<s/\s<mi
         · have hc2a:(a:Int)<(s:Int):=(by omega);have hc2b:(s:Int)<(mi:Int):=(by omega);have HC2:=hid (HIH.out a s mi r1 w3 (by omega) hz1 S4'.out hc2.1 hc2.2 (by omega) hlf.1 hlf.2);clear hlf S4';go_wp2_with fail
           all_goals
            refine HC2.out.mono ?_;rintro e w4 ⟨rfl,r2,S5,hm2⟩;have S5':Aside _:=S5;have HL:=hid hm2;clear S5 hm2;have hrt:=HCUT.out.right HR.out (hsm ▸ HL.out.2.1);rw[hsm]at hrt;have hz2:=HL.out.1.trans HR.out.map.1;by_cases hc3:mi<en/\en<b
            · have hc3a:(mi:Int)<(en:Int):=(by omega);have hc3b:(en:Int)<(b:Int):=(by omega);have HC3:=hid (HIH.out mi en b r2 w4 (by omega) hz2 S5'.out hc3.1 hc3.2 (by omega) hrt.1 hrt.2);clear hrt S5';go_wp2_with fail
              all_goals
               refine HC3.out.mono ?_;rintro e w5 ⟨rfl,r3,S3,hm3⟩;have S3':Aside _:=S3;have HM3:=hid hm3;clear S3 hm3;go_wp2;all_goals go_end0
               all_goals exact ⟨rfl,r3,S3'.out,HCUT.out.merged HO.out HR.out (hsm ▸ HL.out) (hsm ▸ HM3.out)⟩
            · have hm3:Merged (ltOf cf) r2 r2 mi b:=Merged.of_sorted (by
               by_cases h9:mi<en
               · have:en=b:=(by have:=HCUT.out.eb;omega);rw[this]at hrt;exact hrt.1
               · have:en=mi:=(by omega);rw[this]at hrt;exact hrt.2)
              have HM3:=hid hm3;have heb:=HCUT.out.eb;clear hm3 hrt;by_cases hc3a:mi<en
              · have hc3z:(mi:Int)<(en:Int):=(by omega);have hc3y:¬(en:Int)<(b:Int):=(by omega);go_wp2;all_goals go_end0
                all_goals exact ⟨rfl,r2,S5'.out,HCUT.out.merged HO.out HR.out (hsm ▸ HL.out) (hsm ▸ HM3.out)⟩
              · have hc3z:¬(mi:Int)<(en:Int):=(by omega);go_wp2;all_goals go_end0
                all_goals exact ⟨rfl,r2,S5'.out,HCUT.out.merged HO.out HR.out (hsm ▸ HL.out) (hsm ▸ HM3.out)⟩
         · have hm2:Merged (ltOf cf) r1 r1 a mi:=Merged.of_sorted (by
            by_cases h9:a<s
            · have:s=mi:=(by have:=HCUT.out.me;omega);rw[this]at hlf;exact hlf.1
            · have:s=a:=(by have:=HCUT.out.as;omega);rw[this]at hlf;exact hlf.2)
           have HL:=hid hm2;have hme:=HCUT.out.me;clear hm2 hlf;by_cases hc2a:a<s
           · have hc2z:(a:Int)<(s:Int):=(by omega);have hc2y:¬(s:Int)<(mi:Int):=(by omega);have hrt:=HCUT.out.right HR.out (hsm ▸ HL.out.2.1);rw[hsm]at hrt;have hz2:=HL.out.1.trans HR.out.map.1;by_cases hc3:mi<en/\en<b
             · have hc3a:(mi:Int)<(en:Int):=(by omega);have hc3b:(en:Int)<(b:Int):=(by omega);have HC3:=hid (HIH.out mi en b r1 w3 (by omega) hz2 S4'.out hc3.1 hc3.2 (by omega) hrt.1 hrt.2);clear hrt S4';go_wp2_with fail
               all_goals
                refine HC3.out.mono ?_;rintro e w5 ⟨rfl,r3,S3,hm3⟩;have S3':Aside _:=S3;have HM3:=hid hm3;clear S3 hm3;go_wp2;all_goals go_end0
                all_goals exact ⟨rfl,r3,S3'.out,HCUT.out.merged HO.out HR.out (hsm ▸ HL.out) (hsm ▸ HM3.out)⟩
             · have hm3:Merged (ltOf cf) r1 r1 mi b:=Merged.of_sorted (by
                by_cases h9:mi<en
                · have:en=b:=(by have:=HCUT.out.eb;omega);rw[this]at hrt;exact hrt.1
                · have:en=mi:=(by omega);rw[this]at hrt;exact hrt.2)
               have HM3:=hid hm3;have heb:=HCUT.out.eb;clear hm3 hrt;by_cases hc3a:mi<en
               · have hc3z:(mi:Int)<(en:Int):=(by omega);have hc3y:¬(en:Int)<(b:Int):=(by omega);go_wp2;all_goals go_end0
                 all_goals exact ⟨rfl,r1,S4'.out,HCUT.out.merged HO.out HR.out (hsm ▸ HL.out) (hsm ▸ HM3.out)⟩
               · have hc3z:¬(mi:Int)<(en:Int):=(by omega);go_wp2;all_goals go_end0
                 all_goals exact ⟨rfl,r1,S4'.out,HCUT.out.merged HO.out HR.out (hsm ▸ HL.out) (hsm ▸ HM3.out)⟩
           · have hc2z:¬(a:Int)<(s:Int):=(by omega);have hrt:=HCUT.out.right HR.out (hsm ▸ HL.out.2.1);rw[hsm]at hrt;have hz2:=HL.out.1.trans HR.out.map.1;by_cases hc3:mi<en/\en<b
             · have hc3a:(mi:Int)<(en:Int):=(by omega);have hc3b:(en:Int)<(b:Int):=(by omega);have HC3:=hid (HIH.out mi en b r1 w3 (by omega) hz2 S4'.out hc3.1 hc3.2 (by omega) hrt.1 hrt.2);clear hrt S4';go_wp2_with fail
               all_goals
                refine HC3.out.mono ?_;rintro e w5 ⟨rfl,r3,S3,hm3⟩;have S3':Aside _:=S3;have HM3:=hid hm3;clear S3 hm3;go_wp2;all_goals go_end0
                all_goals exact ⟨rfl,r3,S3'.out,HCUT.out.merged HO.out HR.out (hsm ▸ HL.out) (hsm ▸ HM3.out)⟩
             · have hm3:Merged (ltOf cf) r1 r1 mi b:=Merged.of_sorted (by
                by_cases h9:mi<en
                · have:en=b:=(by have:=HCUT.out.eb;omega);rw[this]at hrt;exact hrt.1
                · have:en=mi:=(by omega);rw[this]at hrt;exact hrt.2)
               have HM3:=hid hm3;have heb:=HCUT.out.eb;clear hm3 hrt;by_cases hc3a:mi<en
               · have hc3z:(mi:Int)<(en:Int):=(by omega);have hc3y:¬(en:Int)<(b:Int):=(by omega);go_wp2;all_goals go_end0
                 all_goals exact ⟨rfl,r1,S4'.out,HCUT.out.merged HO.out HR.out (hsm ▸ HL.out) (hsm ▸ HM3.out)⟩
               · have hc3z:¬(mi:Int)<(en:Int):=(by omega);go_wp2;all_goals go_end0
                 all_goals exact ⟨rfl,r1,S4'.out,HCUT.out.merged HO.out HR.out (hsm ▸ HL.out) (hsm ▸ HM3.out)⟩
      · have hro:Rotated d d s m en:=by
         have h8:=HCUT.out.sm;have h9:=HCUT.out.me;by_cases h7:s<m
         · have:m=en:=(by omega);rw[<-this];exact Rotated.none_right d s m
         · have:s=m:=(by omega);rw[this];exact Rotated.none_left d m en
        have HR:=hid hro;clear hro;by_cases hc1a:s<m
        · have hc1z:(s:Int)<(m:Int):=(by omega);have hc1y:¬(m:Int)<(en:Int):=(by omega);have hlf:=HCUT.out.left HR.out;rw[hsm]at hlf;have hz1:=HR.out.map.1;by_cases hc2:a<s/\s<mi
          · have hc2a:(a:Int)<(s:Int):=(by omega);have hc2b:(s:Int)<(mi:Int):=(by omega);have HC2:=hid (HIH.out a s mi d wr (by omega) hz1 S1.out hc2.1 hc2.2 (by omega) hlf.1 hlf.2);clear hlf S1;go_wp2_with fail
            all_goals
             refine HC2.out.mono ?_;rintro e w4 ⟨rfl,r2,S5,hm2⟩;have S5':Aside _:=S5;have HL:=hid hm2;clear S5 hm2;have hrt:=HCUT.out.right HR.out (hsm ▸ HL.out.2.1);rw[hsm]at hrt;have hz2:=HL.out.1.trans HR.out.map.1;by_cases hc3:mi<en/\en<b
             · have hc3a:(mi:Int)<(en:Int):=(by omega);have hc3b:(en:Int)<(b:Int):=(by omega);have HC3:=hid (HIH.out mi en b r2 w4 (by omega) hz2 S5'.out hc3.1 hc3.2 (by omega) hrt.1 hrt.2);clear hrt S5';go_wp2_with fail
               all_goals
                refine HC3.out.mono ?_;rintro e w5 ⟨rfl,r3,S3,hm3⟩;have S3':Aside _:=S3;have HM3:=hid hm3;clear S3 hm3;go_wp2;all_goals go_end0
                all_goals exact ⟨rfl,r3,S3'.out,HCUT.out.merged HO.out HR.out (hsm ▸ HL.out) (hsm ▸ HM3.out)⟩
             · have hm3:Merged (ltOf cf) r2 r2 mi b:=Merged.of_sorted (by
                by_cases h9:mi<en
                · have:en=b:=(by have:=HCUT.out.eb;omega);rw[this]at hrt;exact hrt.1
                · have:en=mi:=(by omega);rw[this]at hrt;exact hrt.2)
               have HM3:=hid hm3;have heb:=HCUT.out.eb;clear hm3 hrt;by_cases hc3a:mi<en
               · have hc3z:(mi:Int)<(en:Int):=(by omega);have hc3y:¬(en:Int)<(b:Int):=(by omega);go_wp2;all_goals go_end0
                 all_goals exact ⟨rfl,r2,S5'.out,HCUT.out.merged HO.out HR.out (hsm ▸ HL.out) (hsm ▸ HM3.out)⟩
               · have hc3z:¬(mi:Int)<(en:Int):=(by omega);go_wp2;all_goals go_end0
                 all_goals exact ⟨rfl,r2,S5'.out,HCUT.out.merged HO.out HR.out (hsm ▸ HL.out) (hsm ▸ HM3.out)⟩
          · have hm2:Merged (ltOf cf) d d a mi:=Merged.of_sorted (by
             by_cases h9:a<s
             · have:s=mi:=(by have:=HCUT.out.me;omega);rw[this]at hlf;exact hlf.1
             · have:s=a:=(by have:=HCUT.out.as;omega);rw[this]at hlf;exact hlf.2)
            have HL:=hid hm2;have hme:=HCUT.out.me;clear hm2 hlf;by_cases hc2a:a<s
            · have hc2z:(a:Int)<(s:Int):=(by omega);have hc2y:¬(s:Int)<(mi:Int):=(by omega);have hrt:=HCUT.out.right HR.out (hsm ▸ HL.out.2.1);rw[hsm]at hrt;have hz2:=HL.out.1.trans HR.out.map.1;by_cases hc3:mi<en/\en<b
              · have hc3a:(mi:Int)<(en:Int):=(by omega);have hc3b:(en:Int)<(b:Int):=(by omega);have HC3:=hid (HIH.out mi en b d wr (by omega) hz2 S1.out hc3.1 hc3.2 (by omega) hrt.1 hrt.2);clear hrt S1;go_wp2_with fail
                all_goals
                 refine HC3.out.mono ?_;rintro e w5 ⟨rfl,r3,S3,hm3⟩;have S3':Aside _:=S3;have HM3:=hid hm3;clear S3 hm3;go_wp2;all_goals go_end0
                 all_goals exact ⟨rfl,r3,S3'.out,HCUT.out.merged HO.out HR.out (hsm ▸ HL.out) (hsm ▸ HM3.out)⟩
              · have hm3:Merged (ltOf cf) d d mi b:=Merged.of_sorted (by
                 by_cases h9:mi<en
                 · have:en=b:=(by have:=HCUT.out.eb;omega);rw[this]at hrt;exact hrt.1
                 · have:en=mi:=(by omega);rw[this]at hrt;exact hrt.2)
                have HM3:=hid hm3;have heb:=HCUT.out.eb;clear hm3 hrt;by_cases hc3a:mi<en
                · have hc3z:(mi:Int)<(en:Int):=(by omega);have hc3y:¬(en:Int)<(b:Int):=(by omega);go_wp2;all_goals go_end0
                  all_goals exact ⟨rfl,d,S1.out,HCUT.out.merged HO.out HR.out (hsm ▸ HL.out) (hsm ▸ HM3.out)⟩
                · have hc3z:¬(mi:Int)<(en:Int):=(by omega);go_wp2;all_goals go_end0
                  all_goals exact ⟨rfl,d,S1.out,HCUT.out.merged HO.out HR.out (hsm ▸ HL.out) (hsm ▸ HM3.out)⟩
            · have hc2z:¬(a:Int)<(s:Int):=(by omega);have hrt:=HCUT.out.right HR.out (hsm ▸ HL.out.2.1);rw[hsm]at hrt;have hz2:=HL.out.1.trans HR.out.map.1;by_cases hc3:mi<en/\en<b
              · have hc3a:(mi:Int)<(en:Int):=(by omega);have hc3b:(en:Int)<(b:Int):=(by omega);have HC3:=hid (HIH.out mi en b d wr (by omega) hz2 S1.out hc3.1 hc3.2 (by omega) hrt.1 hrt.2);clear hrt S1;go_wp2_with fail
                all_goals
                 refine HC3.out.mono ?_;rintro e w5 ⟨rfl,r3,S3,hm3⟩;have S3':Aside _:=S3;have HM3:=hid hm3;clear S3 hm3;go_wp2;all_goals go_end0
                 all_goals exact ⟨rfl,r3,S3'.out,HCUT.out.merged HO.out HR.out (hsm ▸ HL.out) (hsm ▸ HM3.out)⟩
              · have hm3:Merged (ltOf cf) d d mi b:=Merged.of_sorted (by
                 by_cases h9:mi<en
                 · have:en=b:=(by have:=HCUT.out.eb;omega);rw[this]at hrt;exact hrt.1
                 · have:en=mi:=(by omega);rw[this]at hrt;exact hrt.2)
                have HM3:=hid hm3;have heb:=HCUT.out.eb;clear hm3 hrt;by_cases hc3a:mi<en
                · have hc3z:(mi:Int)<(en:Int):=(by omega);have hc3y:¬(en:Int)<(b:Int):=(by omega);go_wp2;all_goals go_end0
                  all_goals exact ⟨rfl,d,S1.out,HCUT.out.merged HO.out HR.out (hsm ▸ HL.out) (hsm ▸ HM3.out)⟩
                · have hc3z:¬(mi:Int)<(en:Int):=(by omega);go_wp2;all_goals go_end0
                  all_goals exact ⟨rfl,d,S1.out,HCUT.out.merged HO.out HR.out (hsm ▸ HL.out) (hsm ▸ HM3.out)⟩
        · have hc1z:¬(s:Int)<(m:Int):=(by omega);have hlf:=HCUT.out.left HR.out;rw[hsm]at hlf;have hz1:=HR.out.map.1;by_cases hc2:a<s/\s<mi
          · have hc2a:(a:Int)<(s:Int):=(by omega);have hc2b:(s:Int)<(mi:Int):=(by omega);have HC2:=hid (HIH.out a s mi d wr (by omega) hz1 S1.out hc2.1 hc2.2 (by omega) hlf.1 hlf.2);clear hlf S1;go_wp2_with fail
            all_goals
             refine HC2.out.mono ?_;rintro e w4 ⟨rfl,r2,S5,hm2⟩;have S5':Aside _:=S5;have HL:=hid hm2;clear S5 hm2;have hrt:=HCUT.out.right HR.out (hsm ▸ HL.out.2.1);rw[hsm]at hrt;have hz2:=HL.out.1.trans HR.out.map.1;by_cases hc3:mi<en/\en<b
             · have hc3a:(mi:Int)<(en:Int):=(by omega);have hc3b:(en:Int)<(b:Int):=(by omega);have HC3:=hid (HIH.out mi en b r2 w4 (by omega) hz2 S5'.out hc3.1 hc3.2 (by omega) hrt.1 hrt.2);clear hrt S5';go_wp2_with fail
               all_goals
                refine HC3.out.mono ?_;rintro e w5 ⟨rfl,r3,S3,hm3⟩;have S3':Aside _:=S3;have HM3:=hid hm3;clear S3 hm3;go_wp2;all_goals go_end0
                all_goals exact ⟨rfl,r3,S3'.out,HCUT.out.merged HO.out HR.out (hsm ▸ HL.out) (hsm ▸ HM3.out)⟩
             · have hm3:Merged (ltOf cf) r2 r2 mi b:=Merged.of_sorted (by
                by_cases h9:mi<en
                · have:en=b:=(by have:=HCUT.out.eb;omega);rw[this]at hrt;exact hrt.1
                · have:en=mi:=(by omega);rw[this]at hrt;exact hrt.2)
               have HM3:=hid hm3;have heb:=HCUT.out.eb;clear hm3 hrt;by_cases hc3a:mi<en
               · have hc3z:(mi:Int)<(en:Int):=(by omega);have hc3y:¬(en:Int)<(b:Int):=(by omega);go_wp2;all_goals go_end0
                 all_goals exact ⟨rfl,r2,S5'.out,HCUT.out.merged HO.out HR.out (hsm ▸ HL.out) (hsm ▸ HM3.out)⟩
               · have hc3z:¬(mi:Int)<(en:Int):=(by omega);go_wp2;all_goals go_end0
                 all_goals exact ⟨rfl,r2,S5'.out,HCUT.out.merged HO.out HR.out (hsm ▸ HL.out) (hsm ▸ HM3.out)⟩
          · have hm2:Merged (ltOf cf) d d a mi:=Merged.of_sorted (by
             by_cases h9:a<s
             · have:s=mi:=(by have:=HCUT.out.me;omega);rw[this]at hlf;exact hlf.1
             · have:s=a:=(by have:=HCUT.out.as;omega);rw[this]at hlf;exact hlf.2)
            have HL:=hid hm2;have hme:=HCUT.out.me;clear hm2 hlf;by_cases hc2a:a<s
            · have hc2z:(a:Int)<(s:Int):=(by omega);have hc2y:¬(s:Int)<(mi:Int):=(by omega);have hrt:=HCUT.out.right HR.out (hsm ▸ HL.out.2.1);rw[hsm]at hrt;have hz2:=HL.out.1.trans HR.out.map.1;by_cases hc3:mi<en/\en<b
              · have hc3a:(mi:Int)<(en:Int):=(by omega);have hc3b:(en:Int)<(b:Int):=(by omega);have HC3:=hid (HIH.out mi en b d wr (by omega) hz2 S1.out hc3.1 hc3.2 (by omega) hrt.1 hrt.2);clear hrt S1;go_wp2_with fail
                all_goals
                 refine HC3.out.mono ?_;rintro e w5 ⟨rfl,r3,S3,hm3⟩;have S3':Aside _:=S3;have HM3:=hid hm3;clear S3 hm3;go_wp2;all_goals go_end0
                 all_goals exact ⟨rfl,r3,S3'.out,HCUT.out.merged HO.out HR.out (hsm ▸ HL.out) (hsm ▸ HM3.out)⟩
              · have hm3:Merged (ltOf cf) d d mi b:=Merged.of_sorted (by
                 by_cases h9:mi<en
                 · have:en=b:=(by have:=HCUT.out.eb;omega);rw[this]at hrt;exact hrt.1
                 · have:en=mi:=(by omega);rw[this]at hrt;exact hrt.2)
                have HM3:=hid hm3;have heb:=HCUT.out.eb;clear hm3 hrt;by_cases hc3a:mi<en
                · have hc3z:(mi:Int)<(en:Int):=(by omega);have hc3y:¬(en:Int)<(b:Int):=(by omega);go_wp2;all_goals go_end0
                  all_goals exact ⟨rfl,d,S1.out,HCUT.out.merged HO.out HR.out (hsm ▸ HL.out) (hsm ▸ HM3.out)⟩
                · have hc3z:¬(mi:Int)<(en:Int):=(by omega);go_wp2;all_goals go_end0
                  all_goals exact ⟨rfl,d,S1.out,HCUT.out.merged HO.out HR.out (hsm ▸ HL.out) (hsm ▸ HM3.out)⟩
            · have hc2z:¬(a:Int)<(s:Int):=(by omega);have hrt:=HCUT.out.right HR.out (hsm ▸ HL.out.2.1);rw[hsm]at hrt;have hz2:=HL.out.1.trans HR.out.map.1;by_cases hc3:mi<en/\en<b
              · have hc3a:(mi:Int)<(en:Int):=(by omega);have hc3b:(en:Int)<(b:Int):=(by omega);have HC3:=hid (HIH.out mi en b d wr (by omega) hz2 S1.out hc3.1 hc3.2 (by omega) hrt.1 hrt.2);clear hrt S1;go_wp2_with fail
                all_goals
                 refine HC3.out.mono ?_;rintro e w5 ⟨rfl,r3,S3,hm3⟩;have S3':Aside _:=S3;have HM3:=hid hm3;clear S3 hm3;go_wp2;all_goals go_end0
                 all_goals exact ⟨rfl,r3,S3'.out,HCUT.out.merged HO.out HR.out (hsm ▸ HL.out) (hsm ▸ HM3.out)⟩
              · have hm3:Merged (ltOf cf) d d mi b:=Merged.of_sorted (by
                 by_cases h9:mi<en
                 · have:en=b:=(by have:=HCUT.out.eb;omega);rw[this]at hrt;exact hrt.1
                 · have:en=mi:=(by omega);rw[this]at hrt;exact hrt.2)
                have HM3:=hid hm3;have heb:=HCUT.out.eb;clear hm3 hrt;by_cases hc3a:mi<en
                · have hc3z:(mi:Int)<(en:Int):=(by omega);have hc3y:¬(en:Int)<(b:Int):=(by omega);go_wp2;all_goals go_end0
                  all_goals exact ⟨rfl,d,S1.out,HCUT.out.merged HO.out HR.out (hsm ▸ HL.out) (hsm ▸ HM3.out)⟩
                · have hc3z:¬(mi:Int)<(en:Int):=(by omega);go_wp2;all_goals go_end0
                  all_goals exact ⟨rfl,d,S1.out,HCUT.out.merged HO.out HR.out (hsm ▸ HL.out) (hsm ▸ HM3.out)⟩
theorem zjO (k:Nat) (aE:∀w,(isAgg 110).run prog w=.ok true w) (zE:∀w,(Go.sizeOf 110).run prog w=.ok k w) (enc:α->List Value) (cf:α->α->Int) (hO:SWO (ltOf cf)) (g:Nat) (cb:Array Value) (blk off cap:Nat) (d0:Array α) (w0:World)
    (eg:∀args w,(callFunc g args).run prog w=.ok (.enter g args) w) (hcmp:CmpLays prog g cb enc k cf blk off d0.size w0) (R:RowK enc k w0 blk off d0) (hsz:d0.size<4611686018427387904):∀N,SymOK k enc cf g cb blk off cap d0.size w0 N
 | 0=>fun a m b d w h0 _ _ h1 h2 _ _ _=>by omega
 | N+1=>fun a m b d w h0 hs S h1 h2 h3 h4 h5=>by
  have IH:=zjO k aE zE enc cf hO g cb blk off cap d0 w0 eg hcmp R hsz N;have hcmp':CmpLays prog g cb enc k cf blk off d.size w0:=(by rw[hs];exact hcmp);by_cases g1:m=a+1
  · have:=zlF k aE zE enc cf hO g cb blk off cap a m b d0 d w0 w eg hcmp' R hs.symm S h1 h2 h3 (by omega) h4 h5 g1;rw[hs]at this;exact this
  · by_cases g2:b=m+1
    · have:=zjM k aE zE enc cf hO g cb blk off cap a m b d0 d w0 w eg hcmp' R hs.symm S h1 h2 h3 (by omega) h4 h5 g1 g2;rw[hs]at this;exact this
    · have:=znw k aE zE enc cf hO g cb blk off cap a m b d0 d w0 w eg hcmp' R hs.symm S h1 h2 h3 (by omega) h4 h5 g1 g2 (by
       rw[hs];exact fun a' m' b' d' w' h=>IH a' m' b' d' w' (by omega))
      rw[hs]at this;exact this
end
end Go.Proofs.YtaeiifngjglchaaGreatDoor
end
section
namespace Go.Proofs.YtaeiifngjglchaaGreatDoor.Mg
open Go.Proofs.Tryz
open Go.Sort
section
variable {α:Type} [Inhabited α] {lt:α->α->Bool} {d r:Array α} {a m b n s c x y:Nat}
theorem zcw (h:SortedIn lt x y d) (hp:PermIn a b d r) (ho:y<=a\/b<=x):SortedIn lt x y r:=by
 intro i j h1 h2 h3;rw[hp.2.1 i (by omega),hp.2.1 j (by omega)];exact h i j h1 h2 h3
theorem zdx (h:SortedIn lt x y d) {y':Nat} (hy:y'<=y):SortedIn lt x y' d:=fun i j h1 h2 h3=>h i j h1 h2 (by omega)
def Pre (lt:α->α->Bool) (s c:Nat) (d:Array α):Prop:=∀k,k<c->SortedIn lt (k*s) (k*s+s) d
def Runs (lt:α->α->Bool) (s n a:Nat) (d:Array α):Prop:=∀k,SortedIn lt (a+k*s) (min (a+k*s+s) n) d
theorem Pre.zero (s:Nat) (d:Array α):Pre lt s 0 d:=fun k h=>absurd h (Nat.not_lt_zero k)
theorem zfl {k c s:Nat} (h:k<c):k*s+s<=c*s:=by
 have:=Nat.mul_le_mul_right s (show k+1<=c from h);rw[Nat.add_mul,Nat.one_mul]at this;exact this
theorem Pre.step (h:Pre lt s c d) (hm:Merged lt d r (c*s) (c*s+s)):Pre lt s (c+1) r:=by
 intro k hk;rcases Nat.lt_or_eq_of_le (show k<=c by omega) with h1 | h1
 · exact zcw (h k h1) hm.2.1 (.inl (zfl h1))
 · subst h1;exact hm.2.2
theorem Pre.runs (h:Pre lt s c d) (hn:n<=c*s+s) (ht:SortedIn lt (c*s) n d):Runs lt s n 0 d:=by
 intro k;rw[Nat.zero_add];rcases Nat.lt_trichotomy k c with h1 | h1 | h1
 · exact zdx (h k h1) (Nat.min_le_left _ _)
 · subst h1;exact zdx ht (Nat.min_le_right _ _)
 · intro i j h2 h3 h4;have:=zfl (s:=s) h1;have h5:=Nat.min_le_right (k*s+s) n;omega
theorem Pre.last (h:Pre lt s c d) (hp:PermIn (c*s) n d r) (hs:SortedIn lt (c*s) n r) (hn:n<=c*s+s):Runs lt s n 0 r:=
 Pre.runs (fun k hk=>zcw (h k hk) hp (.inl (zfl hk))) hn hs
theorem Runs.first (h:Runs lt s n a d) (ha:a+s<=n):SortedIn lt a (a+s) d:=by
 have:=h 0;rw[Nat.zero_mul,Nat.add_zero,Nat.min_eq_left ha]at this;exact this
theorem Runs.second (h:Runs lt s n a d) {b:Nat} (hb:b=min (a+s+s) n):SortedIn lt (a+s) b d:=by
 have:=h 1;rw[Nat.one_mul]at this;rw[hb];exact this
theorem Runs.whole (h:Runs lt s n a d) (ha:n<=a+s):SortedIn lt a n d:=by
 have:=h 0;rw[Nat.zero_mul,Nat.add_zero,Nat.min_eq_right ha]at this;exact this
theorem Runs.step (h:Runs lt s n a d) (hp:PermIn a (a+s+s) d r):Runs lt s n (a+s+s) r:=by
 intro k;have:=h (k+2);rw[Nat.add_mul,show a+(k*s+2*s)=a+s+s+k*s by omega]at this;exact zcw this hp (.inr (by omega))
end
end Go.Proofs.YtaeiifngjglchaaGreatDoor.Mg
end
section
namespace Go.Proofs.YtaeiifngjglchaaGreatDoor
open Go.Proofs.Tryz
open Go.RowKit Go.Lib Go.Sort Mg
section
variable {α:Type} [Inhabited α]
structure StK (k:Nat) (enc:α->List Value) (cf:α->α->Int) (g:Nat) (cb:Array Value) (blk off:Nat) (d0:Array α) (w0:World):Prop where
 aE:∀w,(isAgg 110).run prog w=.ok true w
 zE:∀w,(Go.sizeOf 110).run prog w=.ok k w
 hO:SWO (ltOf cf)
 eg:∀args w,(callFunc g args).run prog w=.ok (.enter g args) w
 hcmp:CmpLays prog g cb enc k cf blk off d0.size w0
 R:RowK enc k w0 blk off d0
 sz:d0.size<4611686018427387904
theorem zgo {k:Nat} {enc:α->List Value} {cf:α->α->Int} {g:Nat} {cb:Array Value} {blk off:Nat} {d0:Array α} {w0:World} (T:StK k enc cf g cb blk off d0 w0) (cap a b:Nat) (d:Array α) (w:World) (hs:d.size=d0.size) (S:SWK enc k w0 blk off d w) (hab:a<=b) (hb:b<=d.size) :
    Calls prog 220 #[.slice (some ⟨blk,off,none⟩) d0.size cap,.int .i64 a,.int .i64 b,.func (.func g) #[] cb] w fun e w'=>e=.returned (.tuple #[])/\∃r,SWK enc k w0 blk off r w'/\Merged (ltOf cf) d r a b:=by
 have h:=AnyQ.insertionSortCmpFunc_w (P:=prog) Tryz.insTr k T.aE T.zE enc cf g cb blk off cap a b d0 d w0 w T.eg T.hcmp T.R hs.symm S T.hO hab hb (by rw[hs];exact T.sz);rw[hs]at h;refine Calls.mono h ?_;rintro e w' ⟨rfl,S'⟩;have h2:=insertionSort_holds T.hO d a b hab hb;exact ⟨rfl,_,S',h2.1.1,h2.1,h2.2⟩
theorem zjN {k:Nat} {enc:α->List Value} {cf:α->α->Int} {g:Nat} {cb:Array Value} {blk off:Nat} {d0:Array α} {w0:World} (T:StK k enc cf g cb blk off d0 w0) (cap a m b:Nat) (d:Array α) (w:World) (hs:d.size=d0.size) (S:SWK enc k w0 blk off d w) (ham:a<m) (hmb:m<b) (hb:b<=d.size)
    (h1:SortedIn (ltOf cf) a m d) (h2:SortedIn (ltOf cf) m b d) :
    Calls prog 221 #[.slice (some ⟨blk,off,none⟩) d0.size cap,.int .i64 a,.int .i64 m,.int .i64 b,.func (.func g) #[] cb] w fun e w'=>e=.returned (.tuple #[])/\∃r,SWK enc k w0 blk off r w'/\Merged (ltOf cf) d r a b:=
 zjO k T.aE T.zE enc cf T.hO g cb blk off cap d0 w0 T.eg T.hcmp T.R T.sz (b-a) a m b d w nL hs S ham hmb hb h1 h2
theorem zfS {k:Nat} {enc:α->List Value} {cf:α->α->Int} {g:Nat} {cb:Array Value} {blk off:Nat} {d:Array α} {w0:World} (T:StK k enc cf g cb blk off d w0) (cap:Nat) (hn:d.size<1000000) :
    Calls prog 145 #[.slice (some ⟨blk,off,none⟩) d.size cap,.int .i64 d.size,.func (.func g) #[] cb] w0 fun e w'=>e=.returned (.tuple #[])/\∃r,SWK enc k w0 blk off r w'/\Merged (ltOf cf) d r 0 d.size:=by
 have S0:Aside (SWK enc k w0 blk off d w0):=SWK.start T.R.hH;have HT:=hid T;obtain ⟨n,hN⟩:∃n,d.size=n:=⟨_,rfl⟩;have HN:=hid hN;have HIC:=hid fun a b (x:Array α) w hs S h1 h2=>zgo T cap a b x w hs S h1 h2;have HSC:=hid fun a m b (x:Array α) w hs S h1 h2 h3 h4 h5=>zjN T cap a m b x w hs S h1 h2 h3 h4 h5;rw[hN]at HIC HSC hn ⊢;have hp0:=permIn_refl d 0 n;have HP0:=hid hp0;clear T hp0 hN;go_enter func145,ntmps145
 go_wp2;go_loopg [7,8] n (fun kx s7 s8 wr=>∃(c a b:Nat) (x:Array α),s7=.int .i64 a/\s8=.int .i64 b/\Hid (a=c*20)/\b<=a+20/\a+20<=b/\a<=n/\n-a<=kx/\Hid (PermIn 0 n d x)/\Hid (Pre (ltOf cf) 20 c x)/\Aside (SWK enc k w0 blk off x wr))
 case atStart=>exact ⟨0,0,20,d,rfl,rfl,(by show 0=0*20;omega),by omega,by omega,by omega,by omega,HP0,Pre.zero 20 d,S0⟩
 case round=>
  clear S0;obtain ⟨c,a,b,x,rfl,rfl,HCA,hba1,hba2,han,hg,HP,HPR,S1⟩:=hrel;have hxs:x.size=n:=HP.out.1.trans HN.out;by_cases hbn:b<=n
  · have hbz:(b:Int)<=(n:Int):=(by omega);have HC:=hid (HIC.out a b x wr (by omega) S1.out (by omega) (by omega));have eb:IntKind.i64.wrap ((b:Int)+20)=(b:Int)+20:=(wI (by omega));clear S1;go_wp2_with fail
    refine HC.out.mono ?_;rintro e w1 ⟨rfl,r,S2,hm⟩;have S2':Aside _:=S2;have HM:=hid hm;clear S2 hm;go_wp2;go_roundg (n-b)
    case measure=>omega
    case rel=>
     have hca:=HCA.out;refine ⟨c+1,b,b+20,r,rfl,by go_num,(by show b=(c+1)*20;omega),by omega,by omega,hbn,nL,?_,?_,S2'⟩
     · exact permIn_trans d x r 0 n HP.out (permIn_mono x r a b 0 n (Nat.zero_le _) hbn (by omega) HM.out.2.1)
     · have hm:=HM.out;rw[hca,show b=c*20+20 by omega]at hm;exact HPR.out.step hm
  · have hbz:¬(b:Int)<=(n:Int):=(by omega);have HC:=hid (HIC.out a n x wr (by omega) S1.out han (by omega));clear S1;go_wp2_with fail
    refine HC.out.mono ?_;rintro e w1 ⟨rfl,r,S2,hm⟩;have S2':Aside _:=S2;have hpr:PermIn 0 n d r:=permIn_trans d x r 0 n HP.out (permIn_mono x r a n 0 n (Nat.zero_le _) nL (by omega) hm.2.1);have hru:Runs (ltOf cf) 20 n 0 r:=by
     have hca:=HCA.out;rw[hca]at hm;exact HPR.out.last hm.2.1 hm.2.2 (by rw[<-hca];omega)
    have HPR2:=hid hpr;have HRU:=hid hru;clear S2 hm hpr hru hg hbn han hba1 hba2 HCA HP HPR;go_wp2;go_loopg [6] n (fun kx s6 wr2=>∃(s:Nat) (y:Array α),s6=.int .i64 s/\1<=s/\s<4000000/\n-s<=kx/\Hid (PermIn 0 n d y)/\Hid (Runs (ltOf cf) s n 0 y)/\Aside (SWK enc k w0 blk off y wr2))
    case atStart=>exact ⟨20,r,rfl,by omega,by omega,by omega,HPR2,HRU,S2'⟩
    case round=>
     clear S2';obtain ⟨s,y,rfl,hs1,hs2,hg2,HP,HR,S1⟩:=hrel;by_cases hsn:s<n
     · have hsz:(s:Int)<(n:Int):=(by omega);obtain ⟨S,hS1,hS2⟩:∃S,2*s<=S/\S<=2*s:=⟨2*s,by omega,by omega⟩;have es1:IntKind.i64.wrap (2*(s:Int))=(S:Int):=(wI (by omega));have es2:IntKind.i64.wrap ((s:Int)*2)=(S:Int):=(wI (by omega));go_wp2;go_loopg [7,8] n (fun kx s7 s8 wr3=>∃(c a b:Nat) (z:Array α),s7=.int .i64 a/\s8=.int .i64 b/\Hid (a=c*S)/\b<=a+S/\a+S<=b/\a<=n/\n-a<=kx/\Hid (PermIn 0 n d z)/\Hid (Pre (ltOf cf) S c z)/\Hid (Runs (ltOf cf) s n a z)/\Aside (SWK enc k w0 blk off z wr3))
       case atStart=>exact ⟨0,0,S,y,rfl,rfl,(by show 0=0*S;omega),by omega,by omega,by omega,by omega,HP,Pre.zero S y,HR,S1⟩
       case round=>
        clear S1 HP HR;obtain ⟨c,a,b,z,rfl,rfl,HCA,hba1,hba2,han,hg3,HP,HPR,HRN,S1⟩:=hrel;have hzs:z.size=n:=HP.out.1.trans HN.out;obtain ⟨m,hm1,hm2⟩:∃m,a+s<=m/\m<=a+s:=⟨a+s,by omega,by omega⟩;have em:IntKind.i64.wrap ((a:Int)+(s:Int))=(m:Int):=(wI (by omega));by_cases hbn:b<=n
        · have hbz:(b:Int)<=(n:Int):=(by omega);obtain ⟨b2,hb21,hb22⟩:∃b2,b+S<=b2/\b2<=b+S:=⟨b+S,by omega,by omega⟩;have eb:IntKind.i64.wrap ((b:Int)+(S:Int))=(b2:Int):=(wI (by omega));have hf:SortedIn (ltOf cf) a m z:=(by rw[show m=a+s by omega];exact HRN.out.first (by omega));have hse:SortedIn (ltOf cf) m b z:=(by rw[show m=a+s by omega];exact HRN.out.second (by rw[Nat.min_eq_left (by omega)];omega));have HC:=hid (HSC.out a m b z wr (by omega) S1.out (by omega) (by omega) (by omega) hf hse);clear S1 hf hse;go_wp2_with fail
          refine HC.out.mono ?_;rintro e w1 ⟨rfl,r3,S2,hm3⟩;have S3':Aside _:=S2;have HM:=hid hm3;clear S2 hm3;go_wp2;go_roundg (n-b)
          case measure=>omega
          case rel=>
           have hca:=HCA.out;refine ⟨c+1,b,b2,r3,rfl,rfl,(by show b=(c+1)*S;rw[Nat.add_mul,Nat.one_mul];omega),by omega,by omega,hbn,nL,?_,?_,?_,S3'⟩
           · exact permIn_trans d z r3 0 n HP.out (permIn_mono z r3 a b 0 n (Nat.zero_le _) hbn (by omega) HM.out.2.1)
           · have hm':=HM.out;rw[hca,show b=c*S+S by omega]at hm';exact HPR.out.step hm'
           · have hm':=HM.out.2.1;rw[show b=a+s+s by omega]at hm' ⊢;exact HRN.out.step hm'
        · have hbz:¬(b:Int)<=(n:Int):=(by omega);by_cases hmn:m<n
          · have hmz:(m:Int)<(n:Int):=(by omega);have hf:SortedIn (ltOf cf) a m z:=(by rw[show m=a+s by omega];exact HRN.out.first (by omega));have hse:SortedIn (ltOf cf) m n z:=(by rw[show m=a+s by omega];exact HRN.out.second (by rw[Nat.min_eq_right (by omega)]));have HC:=hid (HSC.out a m n z wr (by omega) S1.out (by omega) (by omega) (by omega) hf hse);clear S1 hf hse;go_wp2_with fail
            refine HC.out.mono ?_;rintro e w1 ⟨rfl,r3,S2,hm3⟩;have S3':Aside _:=S2;have hpr:PermIn 0 n d r3:=permIn_trans d z r3 0 n HP.out (permIn_mono z r3 a n 0 n (Nat.zero_le _) nL (by omega) hm3.2.1);have hru:Runs (ltOf cf) S n 0 r3:=by
             have hca:=HCA.out;rw[hca]at hm3;exact HPR.out.last hm3.2.1 hm3.2.2 (by rw[<-hca];omega)
            have HPR2:=hid hpr;have HRU:=hid hru;clear S2 hm3 hpr hru;go_wp2;go_roundg (n-S)
            case measure=>omega
            case rel=>exact ⟨S,r3,rfl,by omega,by omega,nL,HPR2,HRU,S3'⟩
          · have hmz:¬(m:Int)<(n:Int):=by omega
            have hru:Runs (ltOf cf) S n 0 z:=HPR.out.runs (by have:=HCA.out;omega) (by
             have hca:=HCA.out;have:=HRN.out.whole (by omega);rw[hca]at this;exact this)
            have HRU:=hid hru;clear hru;go_wp2;go_roundg (n-S)
            case measure=>omega
            case rel=>exact ⟨S,z,rfl,by omega,by omega,nL,HP,HRU,S1⟩
     · have hsz:¬(s:Int)<(n:Int):=(by omega);go_wp2;go_end0
       exact ⟨rfl,y,S1.out,HP.out.1,HP.out,HR.out.whole (by omega)⟩
theorem zcS {k:Nat} {enc:α->List Value} {cf:α->α->Int} {g:Nat} {cb:Array Value} {blk off:Nat} {d:Array α} {w0:World} (T:StK k enc cf g cb blk off d w0) (cap:Nat) (hn:d.size<1000000) :
    Calls prog 91 #[.slice (some ⟨blk,off,none⟩) d.size cap,.func (.func g) #[] cb] w0 fun e w'=>e=.returned (.tuple #[])/\∃r,SWK enc k w0 blk off r w'/\Merged (ltOf cf) d r 0 d.size:=by
 have HC:=hid (zfS T cap hn);clear T;go_enter func91,ntmps91
 go_wp2_with fail
 refine HC.out.mono ?_;rintro e w1 ⟨rfl,r,S,hm⟩;go_wp2;go_end0
 exact ⟨rfl,r,S,hm⟩
end
end Go.Proofs.YtaeiifngjglchaaGreatDoor
end
