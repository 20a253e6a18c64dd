/- Part 12 of the proof (Gi, Gj, Gk, Gl, Gm, Gn, D3); no condition. -/
import Derived.Test.YtgnoolgeijmlaaaGreatDoorZE11
set_option linter.unusedVariables false
set_option linter.unusedSimpArgs false
set_option maxRecDepth 8000
namespace Go.Proofs.YtgnoolgeijmlaaaGreatDoor.Bl
open Sm Bins Cov Xe Wd Go.Proofs.YtgnoolgeijmlaaaGreatDoor.Bd Go.RowKit
open Bool renaming not_false→jC,true_and→qF,or_false→jV,false_or→qG
open Int renaming reduceBEq→zG,eq_ofNat_of_zero_le→qM
open List renaming getElem?_map→zL,getElem?_eq_getElem→jX,drop_eq_getElem_cons→zU,getElem?_cons_succ→jU,getElem?_cons_zero→jT,map_cons→jF,map_nil→jE,append_nil→jD,append_assoc→zJ,getD_eq_getElem?_getD→zM,replicate→jJ,length_take→zX,getElem?_set_ne→jS,length_set→zY,drop_eq_nil_of_le→zF,length_cons→zZ
open Nat renaming le_refl→jP,le_of_ble_eq_true→jH,reduceEqDiff→jA,reduceAdd→jM,add_zero→jL,zero_add→jG
open Option renaming getD_some→jB,getD_none→jO
abbrev isR (H:Hp)(b:Nat)(ws:List Wrd):Prop:=H[b]?=some (.live 16 (ws.map cW))
theorem isR.ix {H:Hp}{b:Nat}{ws:List Wrd}(h:isR H b ws){o n i:Nat}{kk:IntKind}(hi:i<n):J8 16 H (.own b o n) (.int kk (i:Nat))=some (.ptr b (o+i) 0):=OZ h hi
theorem isR.ld {H:Hp}{b:Nat}{ws:List Wrd}(h:isR H b ws){i:Nat}{w:Wrd}(hi:ws[i]?=some w)(hw:w.length=16):DF Tryz.prog H 74 (.ptr b i 0)=some (wA w):=by
 rw[GV ag74 sz74 h (row:=cW w) (by rw[zL,hi]; rfl) (by rw[NG,hw]; exact jP 16),List.drop_zero,List.take_of_length_le (by rw[NG,hw]; exact jP 16)]; rfl
theorem Kb.row {bb:Nat}{H H':Hp}(k:Kb bb H H'){b:Nat}{ws:List Wrd}(h:isR H b ws)(hb:b≠bb):isR H' b ws:=k.keep _ _ h hb
theorem AR6 {x y:Wrd}{l l':Dg}{t r:Nat}(v:VD l)(hl:x.length=y.length)(ox:LOk l x)(oy:LOk l y)(ht:t<l.length)(e:lsL x y t l=some (r,l')):Xt l l'∧r<l'.length:=by
 obtain⟨_,x1,_,r1,_⟩:=UJ x y l t v hl ox oy ht r l' e;exact⟨x1,r1⟩
section
variable (G:Nat->AV) {bb:Nat} {rest:List AV}
theorem AJD {H:Hp}{l:Dg}(s:PS bb rest l H)(x:Wrd)(hx:x.length=16)(ox:LOk l x)(ab:Nat)(hab:ab≠bb)(all:List Wrd)(qa:isR H ab all)(o:Nat)(ow:∀w∈all.drop o,w.length=16∧LOk l w)(hsm:all.length<4000000) :
  Ct G bb rest 81 [.ptr bb 0 0,wA x,.own ab o (all.length-o)] H l (insL x (all.drop o) 0) iA:=by
 intro base Bad hk hb;generalize hT:insL x (all.drop o) 0 l=TOT at hb;generalize hn:all.length-o=n at *;have ho:all.length=o+n∨n=0:=by omega
 refine acN Tryz.func81 rfl ?_;show awp _ _ _ _ _ (EK _ [.tmp 6] _);have hab':=CB qa;have q4:=CU H (ABlk.live 16 [cW x]);have qa':isR (H++[ABlk.live 16 [cW x]]) ab all:=BO qa;have sl:=s.lt;have s0:=s.app (ABlk.live 16 [cW x]);have k0:=(Kb.rfl' bb H).app (ABlk.live 16 [cW x]);simp -implicitDefEqProofs only[vQ,BD,enP,QR _ hx];generalize H++[ABlk.live 16 [cW x]]=X at q4 qa' s0 k0|-;refine GI 0 (fun F H'=>∃t l',TOT=some (t,l')∧PS bb rest l' H'∧Kb bb H H'∧F 7=iA t) (fun _ _=>False) ?_ ?_ (fun _ _ q=>q.elim)
 .refine D7 (fun m F H'=>∃k t l',m+k=n+2∧insL x (all.drop (o+k)) t l'=TOT∧Xt l l'∧t<l'.length∧PS bb rest l' H'∧Kb bb H H'∧isW H' H.length x∧isR H' ab all∧F 0=.ptr bb 0 0∧F 2=.own ab o n∧F 4=.ptr H.length 0 0∧F 7=iA t∧F 8=.int .i64 (k:Nat)) (n+2)
   ⟨0,0,l,rfl,hT,Xt.rfl' l,s.v.p0,s0,k0,q4,qa',by simp -implicitDefEqProofs only[vQ,↓reduceIte,jA],by simp -implicitDefEqProofs only[vQ,↓reduceIte,jA],by simp -implicitDefEqProofs only[AA,↓reduceIte,jA],by simp -implicitDefEqProofs only[AA,↓reduceIte,jA]; rfl,by simp -implicitDefEqProofs only[AA,↓reduceIte]; rfl⟩ ?_
  clear q4 qa' s0 k0;rintro m F H' ⟨k,t,l',hm,hS,xl,ht,s',k',q4,qa',f0,f2,f4,f7,f8⟩;have ec:decide (((k+1:Nat):Int)<(n:Nat))=decide (k+1<n):=by rw[decide_eq_decide]; omega
  simp -implicitDefEqProofs only[vQ,BD,↓reduceIte,jA,enP,A1V,f8,f2,wrap_succ (show k<9223372036854775807 by omega),ec];refine C9 (fun hc=>?_) (fun hc=>?_)
  .have hk':k+1<n:=by simpa using hc
   have hlen:o+k+1<all.length:=by omega
   have ga:all[o+k]?=some all[o+k]:=jX (by omega);have gb:all[o+(k+1)]?=some all[o+(k+1)]:=jX (by omega);rw[zU (show o+k<all.length by omega),zU (show o+k+1<all.length by omega)] at hS;obtain⟨wa,oa⟩:=ow all[o+k] (by rw[List.mem_iff_getElem]; exact⟨k,by simp; omega,by simp⟩);obtain⟨wb,ob⟩:=ow all[o+(k+1)] (by rw[List.mem_iff_getElem]; exact⟨k+1,by simp; omega,by simp⟩);generalize all[o+k]=a at hS ga wa oa;have eb:all[o+k+1]=all[o+(k+1)]:=rfl;rw[eb] at hS;generalize all[o+(k+1)]=b at hS gb wb ob;have hS:((lsL x a 0).bnd fun m=>(LQ m).bnd fun n'=>(lsL b x 0).bnd fun o'=>(LQ o').bnd fun q=>(KA n' q).bnd fun u=>(oOr t u).bnd fun t'=>insL x (all.drop (o+k+1+1)) t') l'=TOT:=hS;have oxx:=ox.go xl;have oaa:=oa.go xl;have obb:=ob.go xl;have b1:=s'.lt;have kl:=k'.len;simp -implicitDefEqProofs only[vQ];refine EW (.ones [0,1,2,3,4,5,6] (.alt 7 (.alt 8 (.ones [9] .done) .non) .non)) (by kernel_rfl) ?_;simp only[DN,IE,jU,jT];simp -implicitDefEqProofs only[vQ,↓reduceIte,jA,jM,enP,U1,f0,f2,f4,f8,qa'.ix (show k<n by omega),IJ q4 hx,qa'.ld ga wa];refine⟨(WG G s' x a hx wa oxx oaa).use hS hb (hk.trans k') ?_,trivial⟩;intro r1 l1 H1 e1 hS s1 k1;obtain⟨x1,p1⟩:=AR6 s'.v (by omega) oxx oaa s'.v.p0 e1;have q4:=k1.keep _ _ q4 (by omega);have qa':=k1.row qa' hab;simp -implicitDefEqProofs only[vQ,↓reduceIte,jA,f0];refine⟨(LW G s1 r1 p1).use hS hb (hk.trans (k'.trans k1)) ?_,trivial⟩;intro r2 l2 H2 e2 hS s2 k2;obtain⟨x2,p2⟩:=apX s1.v p1 p1 p1 e2;have q4:=k2.keep _ _ q4 (by omega);have qa':=k2.row qa' hab;simp -implicitDefEqProofs only[vQ,↓reduceIte];have x12:=x1.trans x2;refine EW (.ones [0,1,2,3,4,5,6,7] (.alt 8 (.alt 9 (.ones [10] .done) .non) .non)) (by kernel_rfl) ?_;simp only[DN,IE,jU,jT];simp -implicitDefEqProofs only[vQ,BD,↓reduceIte,jA,jM,enP,U1,f0,f2,f4,f8,wrap_succ (show k<9223372036854775807 by omega),qa'.ix hk',IJ q4 hx,qa'.ld gb wb];have b3:=s2.lt;refine⟨(WG G s2 b x wb hx (obb.go x12) (oxx.go x12)).use hS hb (hk.trans (k'.trans (k1.trans k2))) ?_,trivial⟩;intro r3 l3 H3 e3 hS s3 k3;obtain⟨x3,p3⟩:=AR6 s2.v (by omega) (obb.go x12) (oxx.go x12) s2.v.p0 e3;have q4:=k3.keep _ _ q4 (by omega);have qa':=k3.row qa' hab;simp -implicitDefEqProofs only[vQ,↓reduceIte,jA,f0];refine⟨(LW G s3 r3 p3).use hS hb (hk.trans (k'.trans (k1.trans (k2.trans k3)))) ?_,trivial⟩;intro r4 l4 H4 e4 hS s4 k4;obtain⟨x4,p4⟩:=apX s3.v p3 p3 p3 e4;have q4:=k4.keep _ _ q4 (by omega);have qa':=k4.row qa' hab;have x34:=x3.trans x4;simp -implicitDefEqProofs only[vQ,↓reduceIte,jA,f0];refine(KX G s4 r2 r4 (x34.lt p2) p4).use hS hb (hk.trans (k'.trans (k1.trans (k2.trans (k3.trans k4))))) ?_;intro r5 l5 H5 e5 hS s5 k5;obtain⟨x5,p5⟩:=apX s4.v (x34.lt p2) p4 p4 e5;have q4:=k5.keep _ _ q4 (by omega);have qa':=k5.row qa' hab;have x15:=x12.trans (x34.trans x5);simp -implicitDefEqProofs only[vQ,BD,↓reduceIte,jA,f7];refine(NY G s5 t r5 (x15.lt ht) p5).use hS hb (hk.trans (k'.trans (k1.trans (k2.trans (k3.trans (k4.trans k5)))))) ?_;intro r6 l6 H6 e6 hS s6 k6;obtain⟨x6,p6⟩:=apX s5.v (x15.lt ht) p5 p5 e6;have q4:=k6.keep _ _ q4 (by omega);have qa':=k6.row qa' hab;simp -implicitDefEqProofs only[vQ,BD,↓reduceIte,jA,enP,f8,wrap_i64 (show(-9223372036854775808:Int)<=(k:Int)+2 by omega) (by omega)];exact⟨m-2,by omega,k+2,r6,l6,by omega,hS,xl.trans (x15.trans x6),p6,s6,k'.trans (k1.trans (k2.trans (k3.trans (k4.trans (k5.trans k6))))),q4,qa',by trivial,by trivial,by trivial,by trivial,by trivial⟩
  .have hk':¬k+1<n:=by have:=hc; simp at this; omega
   have hS:ret t l'=TOT:=by
    rw[<-hS]
    cases hd:all.drop (o+k) with
    | nil=>rfl
    | cons a r =>
      cases r with
      | nil=>rfl
      | cons b r=>have:=congrArg List.length hd; simp at this; omega
   simp -implicitDefEqProofs only[vQ,↓reduceIte,jA];exact⟨t,l',hS.symm,s',k',f7⟩
 .rintro F H' ⟨t,l',e,s',k',f7⟩
  simp -implicitDefEqProofs only[vQ,BD,↓reduceIte,f7];exact⟨t,l',e,rfl,s',k'⟩
end
theorem AKI {α:Type}(xs:List Nat)(g j:Nat)(hj:j<xs.length)(d:Wrd)(K:Wrd->M α):((AEG (xs.drop j) g).bnd fun r=>K (d++r))=(KA (xs.getD j 0) g).bnd fun a=>(AEG (xs.drop (j+1)) g).bnd fun r=>K ((d++[a])++r):=by
 rw[zU hj,getD_at hj];show((KA xs[j] g).bnd fun a=>(AEG (xs.drop (j+1)) g).bnd fun s=>ret (a::s)).bnd _=_;rw[G9];refine congrArg (M.bnd _) (funext fun a=>?_);rw[G9];refine congrArg (M.bnd _) (funext fun r=>?_);show K (d++(a::r))=_;rw[zJ]; rfl
theorem AFE (x:Wrd)(n j:Nat)(h:j<n):(x.take n).getD j 0=x.getD j 0:=by
 rw[zM,zM,List.getElem?_take,if_pos h]
section
variable (G:Nat->AV) {bb:Nat} {rest:List AV}
set_option maxHeartbeats 2000000 in
theorem AGW {H:Hp}{l:Dg}(s:PS bb rest l H)(x y:Wrd)(hx:x.length=16)(hy:y.length=16)(ox:LOk l x)(oy:LOk l y):Ct G bb rest 146 [.ptr bb 0 0,wA x,wA y] H l (XN x 0 y (cst 0)) wA:=by
 intro base Bad hk hb;generalize hT:XN x 0 y (cst 0) l=TOT at hb;refine acN Tryz.func146 rfl ?_;show awp _ _ _ _ _ (EK _ [.cell 6 74] _);simp -implicitDefEqProofs only[vQ,BD,↓reduceIte,jA,enP,QR _ hx,QR _ hy,TT];refine(pcX (OI G 0 (by omega) _)).use ?_;simp -implicitDefEqProofs only[vQ,BD,↓reduceIte,jA,enP,jO,TT];generalize hX:H++[ABlk.live 16 [cW x]]++[ABlk.live 16 [cW y]]++[ABlk.live 16 [cW (jJ 16 0)]]=X;have hxe:ext H X:=by rw[<-hX]; exact(((ext.rfl' H).app _).app _).app _
 have q4:isW X H.length x:=by rw[<-hX]; exact BO (BO (CU _ _))
 have q5:isW X (H.length+1) y:=by rw[<-hX]; exact BO (HY (by simp))
 have q6:isW X (H.length+2) (jJ 16 0):=by rw[<-hX]; exact HY (by simp)
 have sX:=s.ext hxe;have kX:=Kb.ofExt (bb:=bb) hxe;have e1:(H++[ABlk.live 16 [cW x]]).length=H.length+1:=by simp
 have e2:(H++[ABlk.live 16 [cW x]]++[ABlk.live 16 [cW y]]).length=H.length+2:=by simp
 have e3:X.length=H.length+3:=by rw[<-hX]; simp
 rw[e1,e2,e3];have sl:=s.lt
 have hst0:FO Tryz.prog (X++[ABlk.live 16 [cW (jJ 16 0)]]) 74 (.ptr (H.length+3) 0 0) (wA (cst 0))=some (X++[ABlk.live 16 [cW (cst 0)]]):=by
  rw[<-e3,U7 (CU _ _) (by simp) (H8 0),JP]
 simp -implicitDefEqProofs only[vQ,BD,hst0];have q7:isW (X++[ABlk.live 16 [cW (cst 0)]]) (H.length+3) (cst 0):=HY e3;have q4:isW (X++[ABlk.live 16 [cW (cst 0)]]) H.length x:=BO q4;have q5:isW (X++[ABlk.live 16 [cW (cst 0)]]) (H.length+1) y:=BO q5;have q6:isW (X++[ABlk.live 16 [cW (cst 0)]]) (H.length+2) (jJ 16 0):=BO q6;have sX:=sX.app (ABlk.live 16 [cW (cst 0)]);have kX:=kX.app (ABlk.live 16 [cW (cst 0)]);have hl3:H.length+3<(X++[ABlk.live 16 [cW (cst 0)]]).length:=by simp; omega
 generalize X++[ABlk.live 16 [cW (cst 0)]]=X at q4 q5 q6 q7 sX kX hl3|-;refine GI 0 (fun F H'=>∃d l',d.length=16∧TOT=some (d,l')∧PS bb rest l' H'∧Kb bb H H'∧isW H' (H.length+3) d∧isW H' (H.length+2) (jJ 16 0)∧F 6=.ptr (H.length+2) 0 0∧F 7=.ptr (H.length+3) 0 0) (fun _ _=>False) ?_ ?_ (fun _ _ q=>q.elim)
 .refine D7 (fun m F H'=>∃k d l',m+k=16∧d.length=16∧LOk l' d∧XN x k (y.drop k) d l'=TOT∧Xt l l'∧PS bb rest l' H'∧Kb bb H H'∧isW H' H.length x∧isW H' (H.length+1) y∧isW H' (H.length+2) (jJ 16 0)∧isW H' (H.length+3) d∧H.length+3<H'.length ∧
   F 0=.ptr bb 0 0∧F 4=.ptr H.length 0 0∧F 5=.ptr (H.length+1) 0 0∧F 6=.ptr (H.length+2) 0 0∧F 7=.ptr (H.length+3) 0 0∧F 12=.int .i64 (k:Nat)) 16
   ⟨0,cst 0,l,rfl,H8 0,LOk.cst s.v 0,hT,Xt.rfl' l,sX,kX,q4,q5,q6,q7,hl3,by simp -implicitDefEqProofs only[vQ,↓reduceIte,jA],by simp -implicitDefEqProofs only[AA,↓reduceIte,jA],by simp -implicitDefEqProofs only[AA,↓reduceIte,jA],by simp -implicitDefEqProofs only[AA,↓reduceIte,jA],by simp -implicitDefEqProofs only[AA,↓reduceIte,jA],by simp -implicitDefEqProofs only[AA,↓reduceIte]; rfl⟩ ?_
  clear q4 q5 q6 q7 sX kX hl3;rintro m F H0 ⟨k,s0,l0,hm,hd,od,hS,xl,s',k',q4,q5,q6,q7,hl3,f0,f4,f5,f6,f7,f12⟩;simp -implicitDefEqProofs only[vQ,BD,↓reduceIte,enP,f12,MN];refine C9 (fun hc=>?_) (fun hc=>?_)
  .have hk':k<16:=by simpa using hc
   have hyl:k<y.length:=by omega
   have hyk:=(oy.go xl).getD hyl;have oxx:=ox.go xl;rw[IU hyl] at hS;generalize hyv:y.getD k 0=g at hS hyk
   let K:Wrd->M Wrd:=fun p=>(PI s0 (jJ k 0++p) 0).bnd fun s'=>XN x (k+1) (y.drop (k+1)) s'
   have hS:((AEG ((x.take (16-k)).drop 0) g).bnd fun r=>K ([]++r)) l0=TOT:=hS;simp -implicitDefEqProofs only[vQ,BD,↓reduceIte,jA,enP,f12,TT];generalize hB:H0++[ABlk.live 16 [cW (jJ 16 0)]]=B;have q9:isW B H0.length (jJ 16 0):=by rw[<-hB]; exact CU _ _
   have q4:isW B H.length x:=by rw[<-hB]; exact BO q4
   have q5:isW B (H.length+1) y:=by rw[<-hB]; exact BO q5
   have q6:isW B (H.length+2) (jJ 16 0):=by rw[<-hB]; exact BO q6
   have q7:isW B (H.length+3) s0:=by rw[<-hB]; exact BO q7
   have sB:PS bb rest l0 B:=by rw[<-hB]; exact s'.app _
   have kB:Kb bb H B:=by rw[<-hB]; exact k'.app _
   have hl4:H0.length<B.length:=by rw[<-hB]; simp
   clear hB s' k'
   refine GI 2 (fun F H'=>∃d l',d.length=16-k∧K d l'=TOT∧LOk l' d∧Xt l0 l'∧PS bb rest l' H'∧Kb bb H H'∧isW H' H.length x∧isW H' (H.length+1) y∧isW H' (H.length+2) (jJ 16 0)∧isW H' (H.length+3) s0∧isW H' H0.length (jJ k 0++d)∧H.length+3<H'.length ∧
    F 0=.ptr bb 0 0∧F 4=.ptr H.length 0 0∧F 5=.ptr (H.length+1) 0 0∧F 6=.ptr (H.length+2) 0 0∧F 7=.ptr (H.length+3) 0 0∧F 12=.int .i64 (k:Nat)∧F 9=.ptr H0.length 0 0) (fun _ _=>False) ?_ ?_ (fun _ _ q=>q.elim)
   .refine D7 (fun m F H'=>∃j d l',m+(k+j)=16∧d.length=j∧LOk l' d∧((AEG ((x.take (16-k)).drop j) g).bnd fun r=>K (d++r)) l'=TOT∧Xt l0 l'∧PS bb rest l' H'∧Kb bb H H'∧isW H' H.length x∧isW H' (H.length+1) y∧isW H' (H.length+2) (jJ 16 0)∧isW H' (H.length+3) s0∧isW H' H0.length ((jJ k 0++d)++jJ (16-(k+j)) 0)∧H.length+3<H'.length∧H0.length<H'.length ∧
     F 0=.ptr bb 0 0∧F 4=.ptr H.length 0 0∧F 5=.ptr (H.length+1) 0 0∧F 6=.ptr (H.length+2) 0 0∧F 7=.ptr (H.length+3) 0 0∧F 12=.int .i64 (k:Nat)∧F 9=.ptr H0.length 0 0∧F 8=.int .i64 (k:Nat)∧F 10=.int .i64 ((k+j:Nat):Int)) (16-k)
     ⟨0,[],l0,by omega,rfl,LOk.nil _,hS,Xt.rfl' l0,sB,kB,q4,q5,q6,q7,by rw[jD,List.replicate_append_replicate,show k+(16-(k+0))=16 by omega]; exact q9,by omega,hl4,by simp -implicitDefEqProofs only[AA,↓reduceIte,jA]; exact f0,by simp -implicitDefEqProofs only[AA,↓reduceIte,jA]; exact f4,by simp -implicitDefEqProofs only[AA,↓reduceIte,jA]; exact f5,by simp -implicitDefEqProofs only[AA,↓reduceIte,jA]; exact f6,by simp -implicitDefEqProofs only[AA,↓reduceIte,jA]; exact f7,by simp -implicitDefEqProofs only[AA,↓reduceIte,jA]; exact f12,by simp -implicitDefEqProofs only[AA,↓reduceIte,jA],by simp -implicitDefEqProofs only[AA,↓reduceIte,jA],by simp -implicitDefEqProofs only[vQ,↓reduceIte]⟩ ?_
    clear q4 q5 q6 q7 q9 sB kB hl4 f0 f4 f5 f6 f7 f12 hS;rintro m F H1 ⟨j,d,l1,hm,hdj,od1,hS,x1,s1,k1,q4,q5,q6,q7,q9,hl1,hl2,f0,f4,f5,f6,f7,f12,f9,f8,f10⟩;simp -implicitDefEqProofs only[vQ,BD,↓reduceIte,enP,f10,MN];refine C9 (fun hc=>?_) (fun hc=>?_)
    .have hj:k+j<16:=by simpa using hc
     have hj':j<(x.take (16-k)).length:=by rw[zX]; omega
     rw[AKI _ _ _ hj',AFE _ _ _ (by omega)] at hS;have hxl:j<x.length:=by omega
     have hxj:=(oxx.go x1).getD hxl;have hgk:=x1.lt hyk;have hDl:(jJ k 0++d).length=k+j:=by simp [hdj]
     have hsub:IntKind.i64.wrap (((k+j:Nat):Int)-(k:Nat))=((j:Nat):Int):=by rw[wrap_i64 (by omega) (by omega)]; omega
     have ldy:=ldW q5 hyl;rw[hyv] at ldy;simp -implicitDefEqProofs only[vQ,f10];refine EW (.ones [0,1,2,3,4,5,6,7,8,9] (.alt 10 (.ones [11,12] .done) .non)) (by kernel_rfl) ?_;simp only[DN,IE,jU,jT];simp -implicitDefEqProofs only[vQ,BD,LG,↓reduceIte,jA,jM,enP,f0,f4,f5,f8,f10,hsub,QO (show j<16 by omega),QO hk',ldW q4 hxl,ldy];refine⟨(KX G s1 _ _ hxj hgk).use hS hb (hk.trans k1) ?_,trivial⟩;intro a l2 H2 ea hS2 s2 k2;obtain⟨x2,p2⟩:=apX s1.v hxj hgk hgk ea;have q4:=k2.keep _ _ q4 (by omega);have q5:=k2.keep _ _ q5 (by omega);have q6:=k2.keep _ _ q6 (by omega);have q7:=k2.keep _ _ q7 (by omega);have q9:=k2.keep _ _ q9 (by omega);have hst:=stW (n:=a) q9 (i:=k+j) (by rw[IL hDl (by omega)]; exact hj);rw[MX hDl hj] at hst;have kl:=k2.len;simp -implicitDefEqProofs only[vQ,BD,↓reduceIte,jA,enP,jO,f9,f10,QO hj,hst,wrap_succ (show k+j<9223372036854775807 by omega)];have ne:∀ {c:Nat} {w:Wrd} {B:ABlk},isW H2 c w->c≠H0.length->isW (H2.set H0.length B) c w:=fun q hne=>by unfold isW; rw[jS (Ne.symm hne)]; exact q
     refine⟨m-1,by omega,j+1,d++[a],l2,by omega,by simp [hdj],(od1.go x2).app (LOk.cons p2 (LOk.nil _)),hS2,x1.trans x2,s2.set (by omega) _,(k1.trans k2).setN (by omega) _,ne q4 (by omega),ne q5 (by omega),ne q6 (by omega),ne q7 (by omega),by rw[<-zJ]; exact DX q9,by rw[zY]; omega,by rw[zY]; omega,by trivial,by trivial,by trivial,by trivial,by trivial,by trivial,by trivial,by trivial,by trivial⟩
    .have hj:k+j=16:=by have:=hc; simp at this; omega
     rw[zF (show(x.take (16-k)).length<=j by rw[zX]; omega)] at hS;have hS:K (d++[]) l1=TOT:=hS;rw[jD] at hS;rw[hj,Nat.sub_self,List.replicate_zero,jD] at q9;simp -implicitDefEqProofs only[vQ,↓reduceIte,jA];exact⟨d,l1,by omega,hS,od1,x1,s1,k1,q4,q5,q6,q7,q9,hl1,f0,f4,f5,f6,f7,f12,f9⟩
   .clear q4 q5 q6 q7 q9 sB kB hl4 f0 f4 f5 f6 f7 f12 hS
    rintro F H1 ⟨d,l1,hdj,hS,od1,x1,s1,k1,q4,q5,q6,q7,q9,hl1,f0,f4,f5,f6,f7,f12,f9⟩;have hDl:(jJ k 0++d).length=16:=by simp [hdj]; omega
    have oD:LOk l1 (jJ k 0++d):=(LOk.zeros s1.v k).app od1;simp -implicitDefEqProofs only[vQ,BD,↓reduceIte,jA,enP,f0,f7,f9,IJ q7 hd,IJ q9 hDl];refine(YP G s1 s0 _ 0 hd hDl (od.go x1) oD s1.v.p0).use hS hb (hk.trans k1) ?_;intro r l2 H2 er hS2 s2 k2;obtain⟨_,x2,_,⟨r1,r2⟩,_⟩:=PY s0 _ l1 0 s1.v (by rw[hd,hDl]) (od.go x1) oD s1.v.p0 r l2 er;have q4:=k2.keep _ _ q4 (by omega);have q5:=k2.keep _ _ q5 (by omega);have q6:=k2.keep _ _ q6 (by omega);have q7:=k2.keep _ _ q7 (by omega);have kl:=k2.len;simp -implicitDefEqProofs only[vQ,BD,↓reduceIte,jA,enP,jO,f7,U7 q7 hd (show r.length=16 by omega),f12,wrap_succ (show k<9223372036854775807 by omega)];have ne:∀ {c:Nat} {w:Wrd} {B:ABlk},isW H2 c w->c≠H.length+3->isW (H2.set (H.length+3) B) c w:=fun q hne=>by unfold isW; rw[jS (Ne.symm hne)]; exact q
    refine⟨m-1,by omega,k+1,r,l2,by omega,by omega,r2,hS2,xl.trans (x1.trans x2),s2.set (by omega) _,(k1.trans k2).setN (by omega) _,ne q4 (by omega),ne q5 (by omega),ne q6 (by omega),DX q7,by rw[zY]; omega,by trivial,by trivial,by trivial,by trivial,by trivial,by trivial⟩
  .have hk':k=16:=by have:=hc; simp at this; omega
   subst hk';rw[zF (show y.length<=16 by omega)] at hS;have hS:ret s0 l0=TOT:=hS;simp -implicitDefEqProofs only[vQ,↓reduceIte,jA];exact⟨s0,l0,hd,hS.symm,s',k',q7,q6,f6,f7⟩
 .rintro F H' ⟨d,l',hd,e,s',k',q7,q6,f6,f7⟩
  simp -implicitDefEqProofs only[vQ,BD,↓reduceIte,jA,enP,jO,f6,f7,IJ q7 hd,U7 q6 (by simp) hd];rw[I8 _ _ _ _ _ _ _ _ _ (show _=AV.ptr (H.length+2) 0 0 by first|exact f6|(simp -implicitDefEqProofs only[f6])),IJ (DX q6) hd];exact⟨_,rfl,d,l',e,rfl,s'.set (by omega) _,k'.setN (by omega) _⟩
end
def NW (left:Bool):Int:=if left=true then 1 else -1
theorem AN6 {left:Bool}{s i j:Nat}(hi:i<16)(h:frL left s i=some j):j<16∧(i:Int)-NW left*s=(j:Nat):=by
 unfold frL at h;unfold NW;cases left
 .rw[if_neg (by simp)] at h
  split at h
  .cases h; refine⟨by omega,?_⟩; simp
  .cases h
 .rw[if_pos rfl] at h
  split at h
  .cases h; refine⟨by omega,?_⟩; simp; omega
  .cases h
theorem AN7 {left:Bool}{s i:Nat}(h:frL left s i=none):(i:Int)-NW left*s<0∨16<=(i:Int)-NW left*s:=by
 unfold frL at h;unfold NW;cases left
 .rw[if_neg (by simp)] at h
  split at h
  .cases h
  .right; simp; omega
 .rw[if_pos rfl] at h
  split at h
  .cases h
  .left; simp; omega
theorem AIQ {α:Type}(t:Nat)(x:Wrd)(fr:Nat->Option Nat)(xs:List Nat)(i:Nat)(hi:i<xs.length)(d:Wrd)(K:Wrd->M α):((shI t x fr (xs.drop i) i).bnd fun r=>K (d++r))=match fr i with
  | some j=>(KA t (x.getD j 0)).bnd fun a=>(oOr (xs.getD i 0) a).bnd fun b=>(shI t x fr (xs.drop (i+1)) (i+1)).bnd fun r=>K ((d++[b])++r)
  | none=>(shI t x fr (xs.drop (i+1)) (i+1)).bnd fun r=>K ((d++[xs.getD i 0])++r):=by
 rw[zU hi,getD_at hi]
 cases hf:fr i with
 | some j =>
   rw[show shI t x fr (xs[i]::xs.drop (i+1)) i=(KA t (x.getD j 0)).bnd fun a=>(oOr xs[i] a).bnd fun b=>(shI t x fr (xs.drop (i+1)) (i+1)).bnd fun s=>ret (b::s) by rw[shI,hf],G9];refine congrArg (M.bnd _) (funext fun a=>?_);rw[G9];refine congrArg (M.bnd _) (funext fun b=>?_);rw[G9];refine congrArg (M.bnd _) (funext fun r=>?_);show K (d++(b::r))=_;rw[zJ]; rfl
 | none =>
   rw[show shI t x fr (xs[i]::xs.drop (i+1)) i=(shI t x fr (xs.drop (i+1)) (i+1)).bnd fun s=>ret (xs[i]::s) by rw[shI,hf],G9];refine congrArg (M.bnd _) (funext fun r=>?_);show K (d++(xs[i]::r))=_;rw[zJ]; rfl
theorem AYA {x y:Wrd}{l l':Dg}{t r:Nat}(v:VD l)(hl:x.length=y.length)(ox:LOk l x)(oy:LOk l y)(ht:t<l.length)(e:eqL x y t l=some (r,l')):Xt l l'∧r<l'.length:=by
 obtain⟨_,x1,_,r1,_⟩:=VP x y l t v hl ox oy ht r l' e;exact⟨x1,r1⟩
theorem LOk.atD {l:Dg}{xs:List Nat}(v:VD l)(h:LOk l xs)(n:Nat):xs.getD n 0<l.length:=by
 by_cases hn:n<xs.length
 .rw[getD_at hn]; exact h.at hn
 .rw[zM,List.getElem?_eq_none (by omega)]; exact v.p0
section
variable (G:Nat->AV) {bb:Nat} {rest:List AV}
set_option maxHeartbeats 4000000 in
theorem AC1 {H:Hp}{l:Dg}(s:PS bb rest l H)(left:Bool)(x y:Wrd)(hx:x.length=16)(hy:y.length=16)(ox:LOk l x)(oy:LOk l y):Ct G bb rest 148 [.ptr bb 0 0,wA x,wA y,.int .i64 (NW left)] H l (shS left x y 16 0 (cst 0)) wA:=by
 intro base Bad hk hb;generalize hT:shS left x y 16 0 (cst 0) l=TOT at hb;refine acN Tryz.func148 rfl ?_;show awp _ _ _ _ _ (EK _ [.cell 8 74] _);simp -implicitDefEqProofs only[vQ,BD,↓reduceIte,jA,enP,QR _ hx,QR _ hy,TT];refine(pcX (OI G 0 (by omega) _)).use ?_;simp -implicitDefEqProofs only[vQ,BD,↓reduceIte,jA,enP,jO,TT];generalize hX:H++[ABlk.live 16 [cW x]]++[ABlk.live 16 [cW y]]++[ABlk.live 16 [cW (jJ 16 0)]]=X;have hxe:ext H X:=by rw[<-hX]; exact(((ext.rfl' H).app _).app _).app _
 have q5:isW X H.length x:=by rw[<-hX]; exact BO (BO (CU _ _))
 have q6:isW X (H.length+1) y:=by rw[<-hX]; exact BO (HY (by simp))
 have q8:isW X (H.length+2) (jJ 16 0):=by rw[<-hX]; exact HY (by simp)
 have sX:=s.ext hxe;have kX:=Kb.ofExt (bb:=bb) hxe;have e1:(H++[ABlk.live 16 [cW x]]).length=H.length+1:=by simp
 have e2:(H++[ABlk.live 16 [cW x]]++[ABlk.live 16 [cW y]]).length=H.length+2:=by simp
 have e3:X.length=H.length+3:=by rw[<-hX]; simp
 rw[e1,e2,e3];have sl:=s.lt
 have hst0:FO Tryz.prog (X++[ABlk.live 16 [cW (jJ 16 0)]]) 74 (.ptr (H.length+3) 0 0) (wA (cst 0))=some (X++[ABlk.live 16 [cW (cst 0)]]):=by
  rw[<-e3,U7 (CU _ _) (by simp) (H8 0),JP]
 simp -implicitDefEqProofs only[vQ,BD,hst0];have q9:isW (X++[ABlk.live 16 [cW (cst 0)]]) (H.length+3) (cst 0):=HY e3;have q5:isW (X++[ABlk.live 16 [cW (cst 0)]]) H.length x:=BO q5;have q6:isW (X++[ABlk.live 16 [cW (cst 0)]]) (H.length+1) y:=BO q6;have q8:isW (X++[ABlk.live 16 [cW (cst 0)]]) (H.length+2) (jJ 16 0):=BO q8;have sX:=sX.app (ABlk.live 16 [cW (cst 0)]);have kX:=kX.app (ABlk.live 16 [cW (cst 0)]);generalize X++[ABlk.live 16 [cW (cst 0)]]=X at q5 q6 q8 q9 sX kX|-;refine GI 0 (fun F H'=>∃d l',d.length=16∧TOT=some (d,l')∧PS bb rest l' H'∧Kb bb H H'∧isW H' (H.length+3) d∧isW H' (H.length+2) (jJ 16 0)∧F 8=.ptr (H.length+2) 0 0∧F 9=.ptr (H.length+3) 0 0) (fun _ _=>False) ?_ ?_ (fun _ _ q=>q.elim)
 .refine D7 (fun m F H'=>∃k d l',m+k=16∧d.length=16∧LOk l' d∧shS left x y m k d l'=TOT∧Xt l l'∧PS bb rest l' H'∧Kb bb H H'∧isW H' H.length x∧isW H' (H.length+1) y∧isW H' (H.length+2) (jJ 16 0)∧isW H' (H.length+3) d ∧
   F 0=.ptr bb 0 0∧F 3=.int .i64 (NW left)∧F 5=.ptr H.length 0 0∧F 6=.ptr (H.length+1) 0 0∧F 8=.ptr (H.length+2) 0 0∧F 9=.ptr (H.length+3) 0 0∧F 15=.int .i64 (k:Nat)) 16
   ⟨0,cst 0,l,rfl,H8 0,LOk.cst s.v 0,hT,Xt.rfl' l,sX,kX,q5,q6,q8,q9,by simp -implicitDefEqProofs only[vQ,↓reduceIte,jA],by simp -implicitDefEqProofs only[vQ,↓reduceIte,jA],by simp -implicitDefEqProofs only[AA,↓reduceIte,jA],by simp -implicitDefEqProofs only[AA,↓reduceIte,jA],by simp -implicitDefEqProofs only[AA,↓reduceIte,jA],by simp -implicitDefEqProofs only[AA,↓reduceIte,jA],by simp -implicitDefEqProofs only[AA,↓reduceIte]; rfl⟩ ?_
  clear q5 q6 q8 q9 sX kX;rintro m F H0 ⟨k,s0,l0,hm,hd,od,hS,xl,s',k',q5,q6,q8,q9,f0,f3,f5,f6,f8,f9,f15⟩;simp -implicitDefEqProofs only[vQ,BD,↓reduceIte,enP,f15,MN];refine C9 (fun hc=>?_) (fun hc=>?_)
  .have hk':k<16:=by simpa using hc
   obtain⟨m,rfl⟩:∃m',m=m'+1:=⟨m-1,by omega⟩
   have oxx:=ox.go xl;have oyy:=oy.go xl;have hS:((eqL y (cst k) 1).bnd fun t=>(shI t x (frL left k) s0 0).bnd fun out'=>shS left x y m (k+1) out') l0=TOT:=hS;have ock:=LOk.cst s'.v k;simp -implicitDefEqProofs only[vQ,BD,↓reduceIte,jA,f15];refine EW (.ones [0,2,3,1] (.alt 4 (.ones [5] .done) .non)) (by kernel_rfl) ?_;simp only[DN,IE,jU,jT];simp -implicitDefEqProofs only[vQ,BD,↓reduceIte,jA,jM,enP,f0,f6,IJ q6 hy];refine⟨_,pcX (OI G k (by omega) H0),?_⟩;refine⟨(VO G s' y (cst k) hy (H8 k) oyy ock).use hS hb (hk.trans k') ?_,trivial⟩;intro t l1 H1 et hS s1 k1;obtain⟨x1,pt⟩:=AYA s'.v (by rw[hy,H8]) oyy ock s'.v.p1 et;have b1:=s'.lt;have kl:=k'.len;have q5:=k1.keep _ _ q5 (by omega);have q6:=k1.keep _ _ q6 (by omega);have q8:=k1.keep _ _ q8 (by omega);have q9:=k1.keep _ _ q9 (by omega);have k1:=k'.trans k1;have oxx:=oxx.go x1;have od:=od.go x1
   let K:Wrd->M Wrd:=fun out'=>shS left x y m (k+1) out'
   have hS:((shI t x (frL left k) (s0.drop 0) 0).bnd fun r=>K ([]++r)) l1=TOT:=hS;simp -implicitDefEqProofs only[vQ,↓reduceIte]
   refine GI 2 (fun F H'=>∃d l',d.length=16∧K d l'=TOT∧LOk l' d∧Xt l1 l'∧PS bb rest l' H'∧Kb bb H H'∧isW H' H.length x∧isW H' (H.length+1) y∧isW H' (H.length+2) (jJ 16 0)∧isW H' (H.length+3) d ∧
    F 0=.ptr bb 0 0∧F 3=.int .i64 (NW left)∧F 5=.ptr H.length 0 0∧F 6=.ptr (H.length+1) 0 0∧F 8=.ptr (H.length+2) 0 0∧F 9=.ptr (H.length+3) 0 0∧F 15=.int .i64 (k:Nat)) (fun _ _=>False) ?_ ?_ (fun _ _ q=>q.elim)
   .refine D7 (fun n F H'=>∃i d l',n+i=16∧d.length=i∧LOk l' d∧((shI t x (frL left k) (s0.drop i) i).bnd fun r=>K (d++r)) l'=TOT∧Xt l1 l'∧PS bb rest l' H'∧Kb bb H H'∧isW H' H.length x∧isW H' (H.length+1) y∧isW H' (H.length+2) (jJ 16 0)∧isW H' (H.length+3) (d++s0.drop i) ∧
     F 0=.ptr bb 0 0∧F 3=.int .i64 (NW left)∧F 5=.ptr H.length 0 0∧F 6=.ptr (H.length+1) 0 0∧F 8=.ptr (H.length+2) 0 0∧F 9=.ptr (H.length+3) 0 0∧F 15=.int .i64 (k:Nat)∧F 10=.int .i64 (k:Nat)∧F 11=iA t∧F 23=.int .i64 (i:Nat)) 16
     ⟨0,[],l1,rfl,rfl,LOk.nil _,hS,Xt.rfl' l1,s1,k1,q5,q6,q8,q9,by simp -implicitDefEqProofs only[AA,↓reduceIte,jA]; exact f0,by simp -implicitDefEqProofs only[AA,↓reduceIte,jA]; exact f3,by simp -implicitDefEqProofs only[AA,↓reduceIte,jA]; exact f5,by simp -implicitDefEqProofs only[AA,↓reduceIte,jA]; exact f6,by simp -implicitDefEqProofs only[AA,↓reduceIte,jA]; exact f8,by simp -implicitDefEqProofs only[AA,↓reduceIte,jA]; exact f9,by simp -implicitDefEqProofs only[AA,↓reduceIte,jA]; exact f15,by simp -implicitDefEqProofs only[AA,↓reduceIte,jA],by simp -implicitDefEqProofs only[AA,↓reduceIte,jA],by simp -implicitDefEqProofs only[AA,↓reduceIte]; rfl⟩ ?_
    clear q5 q6 q8 q9 s1 k1 f0 f3 f5 f6 f8 f9 f15 hS;rintro n F H1 ⟨i,d,l2,hn,hdi,odd,hS,x2,s2,k2,q5,q6,q8,q9,f0,f3,f5,f6,f8,f9,f15,f10,f11,f23⟩;simp -implicitDefEqProofs only[vQ,BD,↓reduceIte,enP,f23,MN];refine C9 (fun hc=>?_) (fun hc=>?_)
    .have hi:i<16:=by simpa using hc
     rw[AIQ _ _ _ _ _ (by omega)] at hS;rw[IU (show i<s0.length by omega)] at q9;have oxx:=oxx.go x2;have hti:=x2.lt pt;have hoi:=(od.go x2).atD s2.v i
     have hmul:IntKind.i64.wrap (NW left*(k:Nat))=NW left*(k:Nat):=by
      have:NW left=1∨NW left = -1:=by unfold NW; cases left<;>simp
      rcases this with e|e<;>rw[e]<;>rw[wrap_i64 (by omega) (by omega)]
     have hsub:IntKind.i64.wrap ((i:Nat)-NW left*(k:Nat))=(i:Nat)-NW left*(k:Nat):=by
      have:NW left=1∨NW left = -1:=by unfold NW; cases left<;>simp
      rcases this with e|e<;>rw[e]<;>rw[wrap_i64 (by omega) (by omega)]
     cases hf:frL left k i with
     | none =>
       rw[hf] at hS;have hn2:=AN7 hf;obtain⟨z,hz⟩:∃z,z=(i:Int)-NW left*(k:Nat):=⟨_,rfl⟩
       rw[<-hz] at hn2;have hsub:=hsub.trans hz.symm;simp -implicitDefEqProofs only[vQ,CV,BD,LG,UR,↓reduceIte,jA,enP,f3,f10,f23,hmul,hsub];refine KR (fun hx=>?_) (fun hx=>?_)
       .have e16:decide (z<16)=false:=by have:z≥0:=by simpa using hx
                                         simp; omega
        simp -implicitDefEqProofs only[vQ,CV,BD,↓reduceIte,jA,enP,hx,e16];simp -implicitDefEqProofs only[vQ,BD,↓reduceIte,jA,f23,wrap_succ (show i<9223372036854775807 by omega)];refine⟨n-1,by omega,i+1,d++[s0.getD i 0],l2,by omega,by simp [hdi],odd.app (LOk.cons hoi (LOk.nil _)),hS,x2,s2,k2,q5,q6,q8,by rw[zJ]; exact q9,by trivial,by trivial,by trivial,by trivial,by trivial,by trivial,by trivial,by trivial,by trivial,by trivial⟩
       .simp -implicitDefEqProofs only[vQ,CV,BD,EY,↓reduceIte,jA,enP,hx]
        simp -implicitDefEqProofs only[vQ,BD,↓reduceIte,jA,f23,wrap_succ (show i<9223372036854775807 by omega)];refine⟨n-1,by omega,i+1,d++[s0.getD i 0],l2,by omega,by simp [hdi],odd.app (LOk.cons hoi (LOk.nil _)),hS,x2,s2,k2,q5,q6,q8,by rw[zJ]; exact q9,by trivial,by trivial,by trivial,by trivial,by trivial,by trivial,by trivial,by trivial,by trivial,by trivial⟩
     | some j =>
       rw[hf] at hS;obtain⟨hj,ej⟩:=AN6 hi hf;have hsub:=hsub.trans ej;have e0:decide (((j:Nat):Int)≥0)=true:=by simp
       have e16:decide (((j:Nat):Int)<16)=true:=by simp; omega
       simp -implicitDefEqProofs only[vQ,CV,BD,LG,UR,↓reduceIte,jA,enP,f3,f10,f23,hmul,hsub,e0];simp -implicitDefEqProofs only[DV,e16];refine EW (.ones [0,1,2,5,6,7,8,9] (.alt 3 (.alt 4 (.alt 10 (.alt 11 (.ones [12,13] .done) .non) .non) (.alt 10 (.ones [4] (.alt 11 (.ones [12,13] .done) .non)) .non)) (.alt 10 (.ones [3,4] (.alt 11 (.ones [12,13] .done) .non)) .non))) (by kernel_rfl) ?_;simp only[DN,IE,jU,jT];have hlq:i<(d++s0.getD i 0::s0.drop (i+1)).length:=by simp [hdi]
       have hld0:=ldW q9 (i:=i) hlq;rw[QE hdi] at hld0;simp -implicitDefEqProofs only[vQ,BD,↓reduceIte,jA,jM,enP,f0,f5,f9,f11,f23,hsub,QO hi,QO hj,ldW q5 (show j<x.length by omega),hld0];refine⟨⟨⟨?_,trivial⟩,?_,trivial⟩,?_,trivial⟩
       .refine(KX G s2 t _ hti (oxx.atD s2.v j)).use hS hb (hk.trans k2) ?_
        intro a l3 H3 ea hS s3 k3;obtain⟨x3,pa⟩:=apX s2.v hti (oxx.atD s2.v j) (oxx.atD s2.v j) ea;have k3':=k2.trans k3;have q5:=k3.keep _ _ q5 (by omega);have q6:=k3.keep _ _ q6 (by omega);have q8:=k3.keep _ _ q8 (by omega);have q9:=k3.keep _ _ q9 (by omega);have hld:=ldW q9 (i:=i) hlq;rw[QE hdi] at hld;simp -implicitDefEqProofs only[vQ,↓reduceIte,jA,f0,f9,QO hi,hld];refine⟨(NY G s3 _ _ (x3.lt hoi) pa).use hS hb (hk.trans k3') ?_ ,trivial⟩;intro b l4 H4 eb hS s4 k4;obtain⟨x4,pb⟩:=apX s3.v (x3.lt hoi) pa pa eb;have k4':=k3'.trans k4;have q5:=k4.keep _ _ q5 (by omega);have q6:=k4.keep _ _ q6 (by omega);have q8:=k4.keep _ _ q8 (by omega);have q9:=k4.keep _ _ q9 (by omega);have hst:=stW (n:=b) q9 (i:=i) hlq;rw[set_mid hdi] at hst;have ne:∀ {c:Nat} {w:Wrd} {B:ABlk},isW H4 c w->c≠H.length+3->isW (H4.set (H.length+3) B) c w:=fun q hne=>by unfold isW; rw[jS (Ne.symm hne)]; exact q
        simp -implicitDefEqProofs only[vQ,BD,↓reduceIte,jA,enP,jO,f9,QO hi,hst,f23,wrap_succ (show i<9223372036854775807 by omega)];have x34:=x3.trans x4;exact⟨n-1,by omega,i+1,d++[b],l4,by omega,by simp [hdi],(odd.go x34).app (LOk.cons pb (LOk.nil _)),hS,x2.trans x34,s4.set (by omega) _,k4'.setN (by omega) _,ne q5 (by omega),ne q6 (by omega),ne q8 (by omega),DX q9,by trivial,by trivial,by trivial,by trivial,by trivial,by trivial,by trivial,by trivial,by trivial,by trivial⟩
       .refine(KX G s2 t _ hti (oxx.atD s2.v j)).use hS hb (hk.trans k2) ?_
        intro a l3 H3 ea hS s3 k3;obtain⟨x3,pa⟩:=apX s2.v hti (oxx.atD s2.v j) (oxx.atD s2.v j) ea;have k3':=k2.trans k3;have q5:=k3.keep _ _ q5 (by omega);have q6:=k3.keep _ _ q6 (by omega);have q8:=k3.keep _ _ q8 (by omega);have q9:=k3.keep _ _ q9 (by omega);have hld:=ldW q9 (i:=i) hlq;rw[QE hdi] at hld;simp -implicitDefEqProofs only[vQ,↓reduceIte,jA,f0,f9,QO hi,hld];refine⟨(NY G s3 _ _ (x3.lt hoi) pa).use hS hb (hk.trans k3') ?_ ,trivial⟩;intro b l4 H4 eb hS s4 k4;obtain⟨x4,pb⟩:=apX s3.v (x3.lt hoi) pa pa eb;have k4':=k3'.trans k4;have q5:=k4.keep _ _ q5 (by omega);have q6:=k4.keep _ _ q6 (by omega);have q8:=k4.keep _ _ q8 (by omega);have q9:=k4.keep _ _ q9 (by omega);have hst:=stW (n:=b) q9 (i:=i) hlq;rw[set_mid hdi] at hst;have ne:∀ {c:Nat} {w:Wrd} {B:ABlk},isW H4 c w->c≠H.length+3->isW (H4.set (H.length+3) B) c w:=fun q hne=>by unfold isW; rw[jS (Ne.symm hne)]; exact q
        simp -implicitDefEqProofs only[vQ,BD,↓reduceIte,jA,enP,jO,f9,QO hi,hst,f23,wrap_succ (show i<9223372036854775807 by omega)];have x34:=x3.trans x4;exact⟨n-1,by omega,i+1,d++[b],l4,by omega,by simp [hdi],(odd.go x34).app (LOk.cons pb (LOk.nil _)),hS,x2.trans x34,s4.set (by omega) _,k4'.setN (by omega) _,ne q5 (by omega),ne q6 (by omega),ne q8 (by omega),DX q9,by trivial,by trivial,by trivial,by trivial,by trivial,by trivial,by trivial,by trivial,by trivial,by trivial⟩
       .refine(KX G s2 t _ hti (oxx.atD s2.v j)).use hS hb (hk.trans k2) ?_
        intro a l3 H3 ea hS s3 k3;obtain⟨x3,pa⟩:=apX s2.v hti (oxx.atD s2.v j) (oxx.atD s2.v j) ea;have k3':=k2.trans k3;have q5:=k3.keep _ _ q5 (by omega);have q6:=k3.keep _ _ q6 (by omega);have q8:=k3.keep _ _ q8 (by omega);have q9:=k3.keep _ _ q9 (by omega);have hld:=ldW q9 (i:=i) hlq;rw[QE hdi] at hld;simp -implicitDefEqProofs only[vQ,↓reduceIte,jA,jM,enP,f0,f9,QO hi,hld];refine⟨(NY G s3 _ _ (x3.lt hoi) pa).use hS hb (hk.trans k3') ?_ ,trivial⟩;intro b l4 H4 eb hS s4 k4;obtain⟨x4,pb⟩:=apX s3.v (x3.lt hoi) pa pa eb;have k4':=k3'.trans k4;have q5:=k4.keep _ _ q5 (by omega);have q6:=k4.keep _ _ q6 (by omega);have q8:=k4.keep _ _ q8 (by omega);have q9:=k4.keep _ _ q9 (by omega);have hst:=stW (n:=b) q9 (i:=i) hlq;rw[set_mid hdi] at hst;have ne:∀ {c:Nat} {w:Wrd} {B:ABlk},isW H4 c w->c≠H.length+3->isW (H4.set (H.length+3) B) c w:=fun q hne=>by unfold isW; rw[jS (Ne.symm hne)]; exact q
        simp -implicitDefEqProofs only[vQ,BD,↓reduceIte,jA,enP,jO,f9,QO hi,hst,f23,wrap_succ (show i<9223372036854775807 by omega)];have x34:=x3.trans x4;exact⟨n-1,by omega,i+1,d++[b],l4,by omega,by simp [hdi],(odd.go x34).app (LOk.cons pb (LOk.nil _)),hS,x2.trans x34,s4.set (by omega) _,k4'.setN (by omega) _,ne q5 (by omega),ne q6 (by omega),ne q8 (by omega),DX q9,by trivial,by trivial,by trivial,by trivial,by trivial,by trivial,by trivial,by trivial,by trivial,by trivial⟩
    .have hi:i=16:=by have:=hc; simp at this; omega
     subst hi;rw[zF (show s0.length<=16 by omega)] at hS q9;have hS:K (d++[]) l2=TOT:=hS;rw[jD] at hS q9;simp -implicitDefEqProofs only[vQ,↓reduceIte,jA];exact⟨d,l2,hdi,hS,odd,x2,s2,k2,q5,q6,q8,q9,f0,f3,f5,f6,f8,f9,f15⟩
   .clear q5 q6 q8 q9 s1 k1 f0 f3 f5 f6 f8 f9 f15 hS
    rintro F H1 ⟨d,l2,hdi,hS,odd,x2,s2,k2,q5,q6,q8,q9,f0,f3,f5,f6,f8,f9,f15⟩;simp -implicitDefEqProofs only[vQ,BD,↓reduceIte,jA,enP,f15,wrap_succ (show k<9223372036854775807 by omega)];exact⟨m,by omega,k+1,d,l2,by omega,hdi,odd,hS,xl.trans (x1.trans x2),s2,k2,q5,q6,q8,q9,by trivial,by trivial,by trivial,by trivial,by trivial,by trivial,by trivial⟩
  .have hk':k=16:=by have:=hc; simp at this; omega
   subst hk';have:m=0:=by omega
   subst this;have hS:ret s0 l0=TOT:=hS;simp -implicitDefEqProofs only[vQ,↓reduceIte,jA];exact⟨s0,l0,hd,hS.symm,s',k',q9,q8,f8,f9⟩
 .rintro F H' ⟨d,l',hd,e,s',k',q9,q8,f8,f9⟩
  simp -implicitDefEqProofs only[vQ,BD,↓reduceIte,jA,enP,jO,f8,f9,IJ q9 hd,U7 q8 (by simp) hd];rw[I8 _ _ _ _ _ _ _ _ _ (show _=AV.ptr (H.length+2) 0 0 by first|exact f8|(simp -implicitDefEqProofs only[f8])),IJ (DX q8) hd];exact⟨_,rfl,d,l',e,rfl,s'.set (by omega) _,k'.setN (by omega) _⟩
end
def lgL (op:Int)(x y:Wrd):M Wrd:=(trL x 0).bnd fun s=>(trL y 0).bnd fun t=>if op=19 then (KA s t).bnd fun r=>ret (sgl r) else if op=20 then (oOr s t).bnd fun r=>ret (sgl r) else (LQ s).bnd fun n=>(oOr n t).bnd fun r=>ret (sgl r)
def cpL (op:Int)(x y:Wrd):M Wrd:=if op=15 then (eqL x y 1).bnd fun r=>ret (sgl r) else if op=16 then (eqL x y 1).bnd fun e=>(LQ e).bnd fun r=>ret (sgl r) else if op=17 then (lsL x y 0).bnd fun r=>ret (sgl r) else (lsL y x 0).bnd fun e=>(LQ e).bnd fun r=>ret (sgl r)
def PL (op:Int)(x y:Wrd):M Wrd:=if op=7 then PI x y 0 else if op=8 then AA3 x y else if op=9 then XN x 0 y (cst 0) else if op=10 then pr2 KA x y else if op=11 then pr2 oOr x y else if op=12 then pr2 NS x y else
 if op=13 then shS true x y 16 0 (cst 0) else if op=14 then shS false x y 16 0 (cst 0) else if op=19∨op=20∨op=21 then lgL op x y else cpL op x y
theorem AFC {x:Wrd}{l l':Dg}{t r:Nat}(v:VD l)(ox:LOk l x)(ht:t<l.length)(e:trL x t l=some (r,l')):Xt l l'∧r<l'.length:=by
 obtain⟨_,x1,_,r1,_⟩:=QI x l t v ox ht r l' e;exact⟨x1,r1⟩
section
variable (G:Nat->AV) {bb:Nat} {rest:List AV}
theorem SY {H H':Hp}{l:Dg}{w:Wrd}{c:Nat}(hw:w.length=16)(s:PS bb rest l H')(k:Kb bb H H')(hc:H.length<=c)(hcb:c≠bb){z:Wrd}(hz:z.length=16)(q:isW H' c z) :
  FO Tryz.prog H' 74 (.ptr c 0 0) (wA w)=some (H'.set c (.live 16 [cW w]))∧isW (H'.set c (.live 16 [cW w])) c w∧PS bb rest l (H'.set c (.live 16 [cW w]))∧Kb bb H (H'.set c (.live 16 [cW w])) :=
 ⟨U7 q hz hw,DX q,s.set hcb _,k.setN hc _⟩
theorem XO {H:Hp}{l:Dg}(s:PS bb rest l H)(op:Int)(hop:op=19∨op=20∨op=21)(x y:Wrd)(hx:x.length=16)(hy:y.length=16)(ox:LOk l x)(oy:LOk l y):Ct G bb rest 149 [.ptr bb 0 0,.int .i64 op,wA x,wA y] H l (lgL op x y) wA:=by
 intro base Bad hk hb;generalize hT:lgL op x y l=TOT at hb;refine acN Tryz.func149 rfl ?_;show awp _ _ _ _ _ (EK _ [.cell 8 74] _);simp -implicitDefEqProofs only[vQ,BD,↓reduceIte,jA,enP,QR _ hx,QR _ hy,TT];generalize hX:H++[ABlk.live 16 [cW x]]++[ABlk.live 16 [cW y]]++[ABlk.live 16 [cW (jJ 16 0)]]=X;have hxe:ext H X:=by rw[<-hX]; exact(((ext.rfl' H).app _).app _).app _
 have q6:isW X H.length x:=by rw[<-hX]; exact BO (BO (CU _ _))
 have q7:isW X (H.length+1) y:=by rw[<-hX]; exact BO (HY (by simp))
 have q8:isW X (H.length+2) (jJ 16 0):=by rw[<-hX]; exact HY (by simp)
 have sX:=s.ext hxe;have kX:=Kb.ofExt (bb:=bb) hxe;have e1:(H++[ABlk.live 16 [cW x]]).length=H.length+1:=by simp
 have e2:(H++[ABlk.live 16 [cW x]]++[ABlk.live 16 [cW y]]).length=H.length+2:=by simp
 rw[e1,e2];clear hX hxe;have sl:=s.lt;simp -implicitDefEqProofs only[vQ,BD,↓reduceIte,jA,IJ q6 hx];refine(OD G sX x hx ox).use hT hb (hk.trans kX) ?_;intro r1 l1 H1 e1 hS s1 k1;obtain⟨x1,p1⟩:=AFC s.v ox s.v.p0 e1;have q7:=k1.keep _ _ q7 (by omega);have q8:=k1.keep _ _ q8 (by omega);have k1:=kX.trans k1;simp -implicitDefEqProofs only[vQ,BD,↓reduceIte,jA,enP,IJ q7 hy];refine(OD G s1 y hy (oy.go x1)).use hS hb (hk.trans k1) ?_;intro r2 l2 H2 e2 hS s2 k2;obtain⟨x2,p2⟩:=AFC s1.v (oy.go x1) s1.v.p0 e2;have q8:=k2.keep _ _ q8 (by omega);have k2:=k1.trans k2;have p1:=x2.lt p1;rcases hop with rfl|rfl|rfl
 .rw[if_pos rfl] at hS
  simp -implicitDefEqProofs only[vQ,BD,↓reduceIte,jA,enP,zG];refine(KX G s2 _ _ p1 p2).use hS hb (hk.trans k2) ?_;intro r3 l3 H3 e3 hS s3 k3;have hS:ret (sgl r3) l3=TOT:=hS;have q8:=k3.keep _ _ q8 (by omega);obtain⟨f1,f2,f3,f4⟩:=SY (JQ r3) s3 (k2.trans k3) (c:=H.length+2) (by omega) (by omega) (by simp) q8;simp -implicitDefEqProofs only[vQ,BD,↓reduceIte];refine(pcX (J7 G r3 H3)).use ?_;simp -implicitDefEqProofs only[vQ,BD,↓reduceIte,jA,enP,jO,f1];rw[I8 _ _ _ _ _ _ _ _ _ (show _=AV.ptr (H.length+2) 0 0 by simp -implicitDefEqProofs only[AA,↓reduceIte,jA]),IJ f2 (JQ r3)];exact⟨_,rfl,_,_,hS.symm,rfl,f3,f4⟩
 .rw[if_neg (by decide),if_pos rfl] at hS
  simp -implicitDefEqProofs only[vQ,BD,↓reduceIte,jA,enP,zG];refine(NY G s2 _ _ p1 p2).use hS hb (hk.trans k2) ?_;intro r3 l3 H3 e3 hS s3 k3;have hS:ret (sgl r3) l3=TOT:=hS;have q8:=k3.keep _ _ q8 (by omega);obtain⟨f1,f2,f3,f4⟩:=SY (JQ r3) s3 (k2.trans k3) (c:=H.length+2) (by omega) (by omega) (by simp) q8;simp -implicitDefEqProofs only[vQ,BD,↓reduceIte];refine(pcX (J7 G r3 H3)).use ?_;simp -implicitDefEqProofs only[vQ,BD,↓reduceIte,jA,enP,jO,f1];rw[I8 _ _ _ _ _ _ _ _ _ (show _=AV.ptr (H.length+2) 0 0 by simp -implicitDefEqProofs only[AA,↓reduceIte,jA]),IJ f2 (JQ r3)];exact⟨_,rfl,_,_,hS.symm,rfl,f3,f4⟩
 .rw[if_neg (by decide),if_neg (by decide)] at hS
  simp -implicitDefEqProofs only[vQ,BD,↓reduceIte,jA,enP,zG];refine(LW G s2 _ p1).use hS hb (hk.trans k2) ?_;intro r3 l3 H3 e3 hS s3 k3;obtain⟨x3,p3⟩:=apX s2.v p1 p1 p1 e3;have q8:=k3.keep _ _ q8 (by omega);have k3:=k2.trans k3;simp -implicitDefEqProofs only[vQ,BD,↓reduceIte,jA];refine(NY G s3 _ _ p3 (x3.lt p2)).use hS hb (hk.trans k3) ?_;intro r4 l4 H4 e4 hS s4 k4;have hS:ret (sgl r4) l4=TOT:=hS;have q8:=k4.keep _ _ q8 (by omega);obtain⟨f1,f2,f3,f4⟩:=SY (JQ r4) s4 (k3.trans k4) (c:=H.length+2) (by omega) (by omega) (by simp) q8;simp -implicitDefEqProofs only[vQ,BD,↓reduceIte];refine(pcX (J7 G r4 H4)).use ?_;simp -implicitDefEqProofs only[vQ,BD,↓reduceIte,jA,enP,jO,f1];rw[I8 _ _ _ _ _ _ _ _ _ (show _=AV.ptr (H.length+2) 0 0 by simp -implicitDefEqProofs only[AA,↓reduceIte,jA]),IJ f2 (JQ r4)];exact⟨_,rfl,_,_,hS.symm,rfl,f3,f4⟩
theorem AB6 {H:Hp}{l:Dg}(s:PS bb rest l H)(op:Int)(x y:Wrd)(hx:x.length=16)(hy:y.length=16)(ox:LOk l x)(oy:LOk l y):Ct G bb rest 150 [.ptr bb 0 0,.int .i64 op,wA x,wA y] H l (cpL op x y) wA:=by
 intro base Bad hk hb;generalize hT:cpL op x y l=TOT at hb;refine acN Tryz.func150 rfl ?_;show awp _ _ _ _ _ (EK _ [.cell 8 74] _);simp -implicitDefEqProofs only[vQ,BD,↓reduceIte,jA,enP,QR _ hx,QR _ hy,TT];generalize hX:H++[ABlk.live 16 [cW x]]++[ABlk.live 16 [cW y]]++[ABlk.live 16 [cW (jJ 16 0)]]=X;have hxe:ext H X:=by rw[<-hX]; exact(((ext.rfl' H).app _).app _).app _
 have q6:isW X H.length x:=by rw[<-hX]; exact BO (BO (CU _ _))
 have q7:isW X (H.length+1) y:=by rw[<-hX]; exact BO (HY (by simp))
 have q8:isW X (H.length+2) (jJ 16 0):=by rw[<-hX]; exact HY (by simp)
 have sX:=s.ext hxe;have kX:=Kb.ofExt (bb:=bb) hxe;have e1:(H++[ABlk.live 16 [cW x]]).length=H.length+1:=by simp
 have e2:(H++[ABlk.live 16 [cW x]]++[ABlk.live 16 [cW y]]).length=H.length+2:=by simp
 rw[e1,e2];clear hX hxe;have sl:=s.lt;have hcase:op=15∨op=16∨op=17∨(op≠15∧op≠16∧op≠17):=by omega
 rcases hcase with rfl|rfl|rfl|⟨n1,n2,n3⟩
 .unfold cpL at hT; rw[if_pos rfl] at hT
  simp -implicitDefEqProofs only[vQ,BD,↓reduceIte,jA,enP,zG,IJ q6 hx,IJ q7 hy];refine(VO G sX x y hx hy ox oy).use hT hb (hk.trans kX) ?_;intro r3 l3 H3 e3 hS s3 k3;have hS:ret (sgl r3) l3=TOT:=hS;have q8:=k3.keep _ _ q8 (by omega);obtain⟨f1,f2,f3,f4⟩:=SY (JQ r3) s3 (kX.trans k3) (c:=H.length+2) (by omega) (by omega) (by simp) q8;simp -implicitDefEqProofs only[vQ,BD,↓reduceIte];refine(pcX (J7 G r3 H3)).use ?_;simp -implicitDefEqProofs only[vQ,BD,↓reduceIte,jA,enP,jO,f1];rw[I8 _ _ _ _ _ _ _ _ _ (show _=AV.ptr (H.length+2) 0 0 by simp -implicitDefEqProofs only[AA,↓reduceIte,jA]),IJ f2 (JQ r3)];exact⟨_,rfl,_,_,hS.symm,rfl,f3,f4⟩
 .unfold cpL at hT; rw[if_neg (by decide),if_pos rfl] at hT
  simp -implicitDefEqProofs only[vQ,BD,↓reduceIte,jA,enP,zG,IJ q6 hx,IJ q7 hy];refine(VO G sX x y hx hy ox oy).use hT hb (hk.trans kX) ?_;intro r2 l2 H2 e2 hS s2 k2;obtain⟨x2,p2⟩:=AYA s.v (by omega) ox oy s.v.p1 e2;have q8:=k2.keep _ _ q8 (by omega);have k2:=kX.trans k2;simp -implicitDefEqProofs only[vQ,BD,↓reduceIte,jA];refine(LW G s2 _ p2).use hS hb (hk.trans k2) ?_;intro r3 l3 H3 e3 hS s3 k3;have hS:ret (sgl r3) l3=TOT:=hS;have q8:=k3.keep _ _ q8 (by omega);obtain⟨f1,f2,f3,f4⟩:=SY (JQ r3) s3 (k2.trans k3) (c:=H.length+2) (by omega) (by omega) (by simp) q8;simp -implicitDefEqProofs only[vQ,BD,↓reduceIte];refine(pcX (J7 G r3 H3)).use ?_;simp -implicitDefEqProofs only[vQ,BD,↓reduceIte,jA,enP,jO,f1];rw[I8 _ _ _ _ _ _ _ _ _ (show _=AV.ptr (H.length+2) 0 0 by simp -implicitDefEqProofs only[AA,↓reduceIte,jA]),IJ f2 (JQ r3)];exact⟨_,rfl,_,_,hS.symm,rfl,f3,f4⟩
 .unfold cpL at hT; rw[if_neg (by decide),if_neg (by decide),if_pos rfl] at hT
  simp -implicitDefEqProofs only[vQ,BD,↓reduceIte,jA,enP,zG,IJ q6 hx,IJ q7 hy];refine(WG G sX x y hx hy ox oy).use hT hb (hk.trans kX) ?_;intro r3 l3 H3 e3 hS s3 k3;have hS:ret (sgl r3) l3=TOT:=hS;have q8:=k3.keep _ _ q8 (by omega);obtain⟨f1,f2,f3,f4⟩:=SY (JQ r3) s3 (kX.trans k3) (c:=H.length+2) (by omega) (by omega) (by simp) q8;simp -implicitDefEqProofs only[vQ,BD,↓reduceIte];refine(pcX (J7 G r3 H3)).use ?_;simp -implicitDefEqProofs only[vQ,BD,↓reduceIte,jA,enP,jO,f1];rw[I8 _ _ _ _ _ _ _ _ _ (show _=AV.ptr (H.length+2) 0 0 by simp -implicitDefEqProofs only[AA,↓reduceIte,jA]),IJ f2 (JQ r3)];exact⟨_,rfl,_,_,hS.symm,rfl,f3,f4⟩
 .unfold cpL at hT; rw[if_neg n1,if_neg n2,if_neg n3] at hT
  simp -implicitDefEqProofs only[vQ,BD,↓reduceIte,jA,enP,beq_eq_false_iff_ne.2 n1,beq_eq_false_iff_ne.2 n2,beq_eq_false_iff_ne.2 n3,IJ q6 hx,IJ q7 hy];refine(WG G sX y x hy hx oy ox).use hT hb (hk.trans kX) ?_;intro r2 l2 H2 e2 hS s2 k2;obtain⟨x2,p2⟩:=AR6 s.v (by omega) oy ox s.v.p0 e2;have q8:=k2.keep _ _ q8 (by omega);have k2:=kX.trans k2;simp -implicitDefEqProofs only[vQ,BD,↓reduceIte,jA];refine(LW G s2 _ p2).use hS hb (hk.trans k2) ?_;intro r3 l3 H3 e3 hS s3 k3;have hS:ret (sgl r3) l3=TOT:=hS;have q8:=k3.keep _ _ q8 (by omega);obtain⟨f1,f2,f3,f4⟩:=SY (JQ r3) s3 (k2.trans k3) (c:=H.length+2) (by omega) (by omega) (by simp) q8;simp -implicitDefEqProofs only[vQ,BD,↓reduceIte];refine(pcX (J7 G r3 H3)).use ?_;simp -implicitDefEqProofs only[vQ,BD,↓reduceIte,jA,enP,jO,f1];rw[I8 _ _ _ _ _ _ _ _ _ (show _=AV.ptr (H.length+2) 0 0 by simp -implicitDefEqProofs only[AA,↓reduceIte,jA]),IJ f2 (JQ r3)];exact⟨_,rfl,_,_,hS.symm,rfl,f3,f4⟩
end
def Ws (l:Dg)(m:M Wrd):Prop:=Sp l m fun r l'=>r.length=16∧LOk l' r
theorem Ws.of {l:Dg}{m:M Wrd}{P:Wrd->Dg->Prop}(h:Sp l m fun r l'=>(r.length=16∧LOk l' r)∧P r l'):Ws l m:=h.mono fun _ _ _ _ q=>q.1
theorem Ws.sgl {l:Dg}{m:M Nat}{P:Nat->Dg->Prop}(h:Sp l m fun r l'=>r<l'.length∧P r l'):Ws l (m.bnd fun r=>ret (Bl.sgl r)) :=
 h.bnd fun r _ v1 _ q=>Sp.ret v1 ⟨JQ r,LOk.sgl v1 q.1⟩
section
variable {l:Dg} (v:VD l) {x y:Wrd} (hx:x.length=16) (hy:y.length=16) (ox:LOk l x) (oy:LOk l y)
include v hx hy ox oy
theorem AQP (op:Nat->Nat->M Nat)(b:B3)(h:∀f g,op f g=ap b f g g):Ws l (pr2 op x y) :=
 (AC9 op (fun _ _ p q=>b p q q) l (fun l' f g v' _ hf hg=>by rw[h]; exact UX b v' hf hg hg) x y l v (Xt.rfl' l) (by omega) ox oy).mono fun _ _ _ _ q=>⟨by omega,q.1.2⟩
omit hx hy in
theorem AQQ (op:Int):Ws l (lgL op x y):=by
 unfold lgL;refine(QI x l 0 v ox v.p0).bnd ?_;rintro s l1 v1 x1 ⟨h1,_⟩;refine(QI y l1 0 v1 (oy.go x1) v1.p0).bnd ?_;rintro t l2 v2 x2 ⟨h2,_⟩;split
 .exact Ws.sgl (O8 v2 (x2.lt h1) h2)
 split
 .exact Ws.sgl (U0 v2 (x2.lt h1) h2)
 .refine(OE v2 (x2.lt h1)).bnd ?_
  rintro n l3 v3 x3 ⟨h3,_⟩;exact Ws.sgl (U0 v3 h3 (x3.lt h2))
theorem AUS (op:Int):Ws l (cpL op x y):=by
 unfold cpL;split
 .exact Ws.sgl (VP x y l 1 v (by omega) ox oy v.p1)
 split
 .refine(VP x y l 1 v (by omega) ox oy v.p1).bnd ?_
  rintro n l3 v3 x3 ⟨h3,_⟩;exact Ws.sgl (OE v3 h3)
 split
 .exact Ws.sgl (UJ x y l 0 v (by omega) ox oy v.p0)
 .refine(UJ y x l 0 v (by omega) oy ox v.p0).bnd ?_
  rintro n l3 v3 x3 ⟨h3,_⟩;exact Ws.sgl (OE v3 h3)
theorem AYV (op:Int):Ws l (PL op x y):=by
 unfold PL;split
 .exact(PY x y l 0 v (by omega) ox oy v.p0).mono fun _ _ _ _ q=>⟨by omega,q.1.2⟩
 split
 .exact Ws.of (ACK v hx hy ox oy)
 split
 .exact Ws.of (ACC x hx y 0 l (cst 0) v (by omega) ox oy (H8 0) (LOk.cst v 0))
 split
 .exact AQP v hx hy ox oy KA AKC fun _ _=>rfl
 split
 .exact AQP v hx hy ox oy oOr bOr fun _ _=>rfl
 split
 .exact AQP v hx hy ox oy NS AKB fun _ _=>rfl
 split
 .exact Ws.of (VB true v hx hy ox oy)
 split
 .exact Ws.of (VB false v hx hy ox oy)
 split
 .exact AQQ v ox oy op
 .exact AUS v hx hy ox oy op
end
section
variable (G:Nat->AV) {bb:Nat} {rest:List AV}
theorem APF {H:Hp}{l:Dg}(s:PS bb rest l H){x y:Wrd}(hx:x.length=16)(hy:y.length=16)(ox:LOk l x)(oy:LOk l y):Ct G bb rest 82 [wA x,wA y,.fn (.func 144) [.ptr bb 0 0] []] H l (pr2 KA x y) wA :=
 UD G s x y hx hy ox oy _ KA (fun _ _ _ _ _ v _ hf hg e=>apX v hf hg hg e) fun _ _ f g s' _ _ hf hg base Bad hk hb=>KX G s' f g hf hg base Bad hk hb
theorem ARO {H:Hp}{l:Dg}(s:PS bb rest l H){x y:Wrd}(hx:x.length=16)(hy:y.length=16)(ox:LOk l x)(oy:LOk l y):Ct G bb rest 82 [wA x,wA y,.fn (.func 73) [.ptr bb 0 0] []] H l (pr2 oOr x y) wA :=
 UD G s x y hx hy ox oy _ oOr (fun _ _ _ _ _ v _ hf hg e=>apX v hf hg hg e) fun _ _ f g s' _ _ hf hg base Bad hk hb=>NY G s' f g hf hg base Bad hk hb
theorem APE {H:Hp}{l:Dg}(s:PS bb rest l H){x y:Wrd}(hx:x.length=16)(hy:y.length=16)(ox:LOk l x)(oy:LOk l y):Ct G bb rest 82 [wA x,wA y,.fn (.func 147) [.ptr bb 0 0] []] H l (pr2 NS x y) wA :=
 UD G s x y hx hy ox oy _ NS (fun _ _ _ _ _ v _ hf hg e=>apX v hf hg hg e) fun _ _ f g s' _ _ hf hg base Bad hk hb=>TQ G s' f g hf hg base Bad hk hb
theorem AU8 {H:Hp}{l:Dg}(s:PS bb rest l H){x y:Wrd}(hx:x.length=16)(hy:y.length=16)(ox:LOk l x)(oy:LOk l y):Ct G bb rest 148 [.ptr bb 0 0,wA x,wA y,.int .i64 1] H l (shS true x y 16 0 (cst 0)) wA:=AC1 G s true x y hx hy ox oy
theorem AU7 {H:Hp}{l:Dg}(s:PS bb rest l H){x y:Wrd}(hx:x.length=16)(hy:y.length=16)(ox:LOk l x)(oy:LOk l y):Ct G bb rest 148 [.ptr bb 0 0,wA x,wA y,.int .i64 (-1)] H l (shS false x y 16 0 (cst 0)) wA:=AC1 G s false x y hx hy ox oy
set_option maxHeartbeats 8000000 in
theorem AJ7 {H:Hp}{l:Dg}(s:PS bb rest l H)(op:Int)(x y:Wrd)(hx:x.length=16)(hy:y.length=16)(ox:LOk l x)(oy:LOk l y):Ct G bb rest 85 [.ptr bb 0 0,.int .i64 op,wA x,wA y] H l (PL op x y) wA:=by
 intro base Bad hk hb;have hW:∀m,PL op x y=m->Ws l m:=fun m e=>e▸AYV s.v hx hy ox oy op
 generalize hT:PL op x y l=TOT at hb;refine acN Tryz.func85 rfl ?_;show awp _ _ _ _ _ (EK _ [.cell 8 74] _);simp -implicitDefEqProofs only[vQ,BD,↓reduceIte,jA,enP,QR _ hx,QR _ hy,TT];generalize hX:H++[ABlk.live 16 [cW x]]++[ABlk.live 16 [cW y]]++[ABlk.live 16 [cW (jJ 16 0)]]=X;have hxe:ext H X:=by rw[<-hX]; exact(((ext.rfl' H).app _).app _).app _
 have q6:isW X H.length x:=by rw[<-hX]; exact BO (BO (CU _ _))
 have q7:isW X (H.length+1) y:=by rw[<-hX]; exact BO (HY (by simp))
 have q8:isW X (H.length+2) (jJ 16 0):=by rw[<-hX]; exact HY (by simp)
 have sX:=s.ext hxe;have kX:=Kb.ofExt (bb:=bb) hxe;have e1:(H++[ABlk.live 16 [cW x]]).length=H.length+1:=by simp
 have e2:(H++[ABlk.live 16 [cW x]]++[ABlk.live 16 [cW y]]).length=H.length+2:=by simp
 rw[e1,e2];clear hX hxe;have sl:=s.lt;have hcase:op=7∨op=8∨op=9∨op=10∨op=11∨op=12∨op=13∨op=14∨(op=19∨op=20∨op=21)∨(op≠7∧op≠8∧op≠9∧op≠10∧op≠11∧op≠12∧op≠13∧op≠14∧op≠19∧op≠20∧op≠21):=by omega
 rcases hcase with rfl|rfl|rfl|rfl|rfl|rfl|rfl|rfl|hop|⟨n1,n2,n3,n4,n5,n6,n7,n8,n9,n10,n11⟩
 .have hm:PL 7 x y=PI x y 0:=by unfold PL;  rw[if_pos rfl]
  have hw:=hW _ hm;rw[hm] at hT;simp -implicitDefEqProofs only[vQ,BD,↓reduceIte,jA,enP,zG,IJ q6 hx,IJ q7 hy];refine(YP G sX x y 0 hx hy ox oy s.v.p0).use (k:=fun r=>ret r) (by rw[J4]; exact hT) hb (hk.trans kX) ?_;intro r3 l3 H3 e3 hS s3 k3;have hS:ret r3 l3=TOT:=hS;have hr:=(hw r3 l3 e3).2.2.2.1;have q8:=k3.keep _ _ q8 (by omega);obtain⟨f1,f2,f3,f4⟩:=SY hr s3 (kX.trans k3) (c:=H.length+2) (by omega) (by omega) (by simp) q8;simp -implicitDefEqProofs only[vQ,BD,↓reduceIte,jA,enP,jO,f1];rw[I8 _ _ _ _ _ _ _ _ _ (show _=AV.ptr (H.length+2) 0 0 by simp -implicitDefEqProofs only[AA,↓reduceIte,jA]),IJ f2 hr];exact⟨_,rfl,_,_,hS.symm,rfl,f3,f4⟩
 .have hm:PL 8 x y=AA3 x y:=by unfold PL; rw[if_neg (by decide)]; rw[if_pos rfl]
  have hw:=hW _ hm;rw[hm] at hT;simp -implicitDefEqProofs only[vQ,BD,↓reduceIte,jA,enP,zG,IJ q6 hx,IJ q7 hy];refine(AJU G sX x y hx hy ox oy).use (k:=fun r=>ret r) (by rw[J4]; exact hT) hb (hk.trans kX) ?_;intro r3 l3 H3 e3 hS s3 k3;have hS:ret r3 l3=TOT:=hS;have hr:=(hw r3 l3 e3).2.2.2.1;have q8:=k3.keep _ _ q8 (by omega);obtain⟨f1,f2,f3,f4⟩:=SY hr s3 (kX.trans k3) (c:=H.length+2) (by omega) (by omega) (by simp) q8;simp -implicitDefEqProofs only[vQ,BD,↓reduceIte,jA,enP,jO,f1];rw[I8 _ _ _ _ _ _ _ _ _ (show _=AV.ptr (H.length+2) 0 0 by simp -implicitDefEqProofs only[AA,↓reduceIte,jA]),IJ f2 hr];exact⟨_,rfl,_,_,hS.symm,rfl,f3,f4⟩
 .have hm:PL 9 x y=XN x 0 y (cst 0):=by unfold PL; rw[if_neg (by decide)]; rw[if_neg (by decide)]; rw[if_pos rfl]
  have hw:=hW _ hm;rw[hm] at hT;simp -implicitDefEqProofs only[vQ,BD,↓reduceIte,jA,enP,zG,IJ q6 hx,IJ q7 hy];refine(AGW G sX x y hx hy ox oy).use (k:=fun r=>ret r) (by rw[J4]; exact hT) hb (hk.trans kX) ?_;intro r3 l3 H3 e3 hS s3 k3;have hS:ret r3 l3=TOT:=hS;have hr:=(hw r3 l3 e3).2.2.2.1;have q8:=k3.keep _ _ q8 (by omega);obtain⟨f1,f2,f3,f4⟩:=SY hr s3 (kX.trans k3) (c:=H.length+2) (by omega) (by omega) (by simp) q8;simp -implicitDefEqProofs only[vQ,BD,↓reduceIte,jA,enP,jO,f1];rw[I8 _ _ _ _ _ _ _ _ _ (show _=AV.ptr (H.length+2) 0 0 by simp -implicitDefEqProofs only[AA,↓reduceIte,jA]),IJ f2 hr];exact⟨_,rfl,_,_,hS.symm,rfl,f3,f4⟩
 .have hm:PL 10 x y=pr2 KA x y:=by unfold PL; rw[if_neg (by decide)]; rw[if_neg (by decide)]; rw[if_neg (by decide)]; rw[if_pos rfl]
  have hw:=hW _ hm;rw[hm] at hT;simp -implicitDefEqProofs only[vQ,BD,I5,↓reduceIte,jA,enP,zG,IJ q6 hx,IJ q7 hy];refine(APF G sX hx hy ox oy).use (k:=fun r=>ret r) (by rw[J4]; exact hT) hb (hk.trans kX) ?_;intro r3 l3 H3 e3 hS s3 k3;have hS:ret r3 l3=TOT:=hS;have hr:=(hw r3 l3 e3).2.2.2.1;have q8:=k3.keep _ _ q8 (by omega);obtain⟨f1,f2,f3,f4⟩:=SY hr s3 (kX.trans k3) (c:=H.length+2) (by omega) (by omega) (by simp) q8;simp -implicitDefEqProofs only[vQ,BD,↓reduceIte,jA,enP,jO,f1];rw[I8 _ _ _ _ _ _ _ _ _ (show _=AV.ptr (H.length+2) 0 0 by simp -implicitDefEqProofs only[AA,↓reduceIte,jA]),IJ f2 hr];exact⟨_,rfl,_,_,hS.symm,rfl,f3,f4⟩
 .have hm:PL 11 x y=pr2 oOr x y:=by unfold PL; rw[if_neg (by decide)]; rw[if_neg (by decide)]; rw[if_neg (by decide)]; rw[if_neg (by decide)]; rw[if_pos rfl]
  have hw:=hW _ hm;rw[hm] at hT;simp -implicitDefEqProofs only[vQ,BD,I5,↓reduceIte,jA,enP,zG,IJ q6 hx,IJ q7 hy];refine(ARO G sX hx hy ox oy).use (k:=fun r=>ret r) (by rw[J4]; exact hT) hb (hk.trans kX) ?_;intro r3 l3 H3 e3 hS s3 k3;have hS:ret r3 l3=TOT:=hS;have hr:=(hw r3 l3 e3).2.2.2.1;have q8:=k3.keep _ _ q8 (by omega);obtain⟨f1,f2,f3,f4⟩:=SY hr s3 (kX.trans k3) (c:=H.length+2) (by omega) (by omega) (by simp) q8;simp -implicitDefEqProofs only[vQ,BD,↓reduceIte,jA,enP,jO,f1];rw[I8 _ _ _ _ _ _ _ _ _ (show _=AV.ptr (H.length+2) 0 0 by simp -implicitDefEqProofs only[AA,↓reduceIte,jA]),IJ f2 hr];exact⟨_,rfl,_,_,hS.symm,rfl,f3,f4⟩
 .have hm:PL 12 x y=pr2 NS x y:=by unfold PL; rw[if_neg (by decide)]; rw[if_neg (by decide)]; rw[if_neg (by decide)]; rw[if_neg (by decide)]; rw[if_neg (by decide)]; rw[if_pos rfl]
  have hw:=hW _ hm;rw[hm] at hT;simp -implicitDefEqProofs only[vQ,BD,I5,↓reduceIte,jA,enP,zG,IJ q6 hx,IJ q7 hy];refine(APE G sX hx hy ox oy).use (k:=fun r=>ret r) (by rw[J4]; exact hT) hb (hk.trans kX) ?_;intro r3 l3 H3 e3 hS s3 k3;have hS:ret r3 l3=TOT:=hS;have hr:=(hw r3 l3 e3).2.2.2.1;have q8:=k3.keep _ _ q8 (by omega);obtain⟨f1,f2,f3,f4⟩:=SY hr s3 (kX.trans k3) (c:=H.length+2) (by omega) (by omega) (by simp) q8;simp -implicitDefEqProofs only[vQ,BD,↓reduceIte,jA,enP,jO,f1];rw[I8 _ _ _ _ _ _ _ _ _ (show _=AV.ptr (H.length+2) 0 0 by simp -implicitDefEqProofs only[AA,↓reduceIte,jA]),IJ f2 hr];exact⟨_,rfl,_,_,hS.symm,rfl,f3,f4⟩
 .have hm:PL 13 x y=shS true x y 16 0 (cst 0):=by unfold PL; rw[if_neg (by decide)]; rw[if_neg (by decide)]; rw[if_neg (by decide)]; rw[if_neg (by decide)]; rw[if_neg (by decide)]; rw[if_neg (by decide)]; rw[if_pos rfl]
  have hw:=hW _ hm;rw[hm] at hT;simp -implicitDefEqProofs only[vQ,BD,↓reduceIte,jA,enP,zG,IJ q6 hx,IJ q7 hy];refine(AU8 G sX hx hy ox oy).use (k:=fun r=>ret r) (by rw[J4]; exact hT) hb (hk.trans kX) ?_;intro r3 l3 H3 e3 hS s3 k3;have hS:ret r3 l3=TOT:=hS;have hr:=(hw r3 l3 e3).2.2.2.1;have q8:=k3.keep _ _ q8 (by omega);obtain⟨f1,f2,f3,f4⟩:=SY hr s3 (kX.trans k3) (c:=H.length+2) (by omega) (by omega) (by simp) q8;simp -implicitDefEqProofs only[vQ,BD,↓reduceIte,jA,enP,jO,f1];rw[I8 _ _ _ _ _ _ _ _ _ (show _=AV.ptr (H.length+2) 0 0 by simp -implicitDefEqProofs only[AA,↓reduceIte,jA]),IJ f2 hr];exact⟨_,rfl,_,_,hS.symm,rfl,f3,f4⟩
 .have hm:PL 14 x y=shS false x y 16 0 (cst 0):=by unfold PL; rw[if_neg (by decide)]; rw[if_neg (by decide)]; rw[if_neg (by decide)]; rw[if_neg (by decide)]; rw[if_neg (by decide)]; rw[if_neg (by decide)]; rw[if_neg (by decide)]; rw[if_pos rfl]
  have hw:=hW _ hm;rw[hm] at hT;simp -implicitDefEqProofs only[vQ,BD,↓reduceIte,jA,enP,zG,IJ q6 hx,IJ q7 hy];refine(AU7 G sX hx hy ox oy).use (k:=fun r=>ret r) (by rw[J4]; exact hT) hb (hk.trans kX) ?_;intro r3 l3 H3 e3 hS s3 k3;have hS:ret r3 l3=TOT:=hS;have hr:=(hw r3 l3 e3).2.2.2.1;have q8:=k3.keep _ _ q8 (by omega);obtain⟨f1,f2,f3,f4⟩:=SY hr s3 (kX.trans k3) (c:=H.length+2) (by omega) (by omega) (by simp) q8;simp -implicitDefEqProofs only[vQ,BD,↓reduceIte,jA,enP,jO,f1];rw[I8 _ _ _ _ _ _ _ _ _ (show _=AV.ptr (H.length+2) 0 0 by simp -implicitDefEqProofs only[AA,↓reduceIte,jA]),IJ f2 hr];exact⟨_,rfl,_,_,hS.symm,rfl,f3,f4⟩
 .have hm:PL op x y=lgL op x y:=by
   unfold PL;rw[if_neg (by omega),if_neg (by omega),if_neg (by omega),if_neg (by omega),if_neg (by omega),if_neg (by omega),if_neg (by omega),if_neg (by omega),if_pos hop]
  have hw:=hW _ hm;rw[hm] at hT;have hne:∀k:Int,7<=k->k<=14->(op==k)=false:=fun k _ _=>beq_eq_false_iff_ne.2 (by omega)
  rcases hop with rfl|rfl|rfl
  .simp -implicitDefEqProofs only[vQ,BD,↓reduceIte,jA,enP,zG,IJ q6 hx,IJ q7 hy]
   refine(XO G sX 19 (by omega) x y hx hy ox oy).use (k:=fun r=>ret r) (by rw[J4]; exact hT) hb (hk.trans kX) ?_;intro r3 l3 H3 e3 hS s3 k3;have hS:ret r3 l3=TOT:=hS;have hr:=(hw r3 l3 e3).2.2.2.1;have q8:=k3.keep _ _ q8 (by omega);obtain⟨f1,f2,f3,f4⟩:=SY hr s3 (kX.trans k3) (c:=H.length+2) (by omega) (by omega) (by simp) q8;simp -implicitDefEqProofs only[vQ,BD,↓reduceIte,jA,enP,jO,f1];rw[I8 _ _ _ _ _ _ _ _ _ (show _=AV.ptr (H.length+2) 0 0 by simp -implicitDefEqProofs only[AA,↓reduceIte,jA]),IJ f2 hr];exact⟨_,rfl,_,_,hS.symm,rfl,f3,f4⟩
  .simp -implicitDefEqProofs only[vQ,BD,↓reduceIte,jA,enP,zG,IJ q6 hx,IJ q7 hy]
   refine(XO G sX 20 (by omega) x y hx hy ox oy).use (k:=fun r=>ret r) (by rw[J4]; exact hT) hb (hk.trans kX) ?_;intro r3 l3 H3 e3 hS s3 k3;have hS:ret r3 l3=TOT:=hS;have hr:=(hw r3 l3 e3).2.2.2.1;have q8:=k3.keep _ _ q8 (by omega);obtain⟨f1,f2,f3,f4⟩:=SY hr s3 (kX.trans k3) (c:=H.length+2) (by omega) (by omega) (by simp) q8;simp -implicitDefEqProofs only[vQ,BD,↓reduceIte,jA,enP,jO,f1];rw[I8 _ _ _ _ _ _ _ _ _ (show _=AV.ptr (H.length+2) 0 0 by simp -implicitDefEqProofs only[AA,↓reduceIte,jA]),IJ f2 hr];exact⟨_,rfl,_,_,hS.symm,rfl,f3,f4⟩
  .simp -implicitDefEqProofs only[vQ,BD,↓reduceIte,jA,enP,zG,IJ q6 hx,IJ q7 hy]
   refine(XO G sX 21 (by omega) x y hx hy ox oy).use (k:=fun r=>ret r) (by rw[J4]; exact hT) hb (hk.trans kX) ?_;intro r3 l3 H3 e3 hS s3 k3;have hS:ret r3 l3=TOT:=hS;have hr:=(hw r3 l3 e3).2.2.2.1;have q8:=k3.keep _ _ q8 (by omega);obtain⟨f1,f2,f3,f4⟩:=SY hr s3 (kX.trans k3) (c:=H.length+2) (by omega) (by omega) (by simp) q8;simp -implicitDefEqProofs only[vQ,BD,↓reduceIte,jA,enP,jO,f1];rw[I8 _ _ _ _ _ _ _ _ _ (show _=AV.ptr (H.length+2) 0 0 by simp -implicitDefEqProofs only[AA,↓reduceIte,jA]),IJ f2 hr];exact⟨_,rfl,_,_,hS.symm,rfl,f3,f4⟩
 .have hm:PL op x y=cpL op x y:=by
   unfold PL;rw[if_neg n1,if_neg n2,if_neg n3,if_neg n4,if_neg n5,if_neg n6,if_neg n7,if_neg n8,if_neg (by omega)]
  have hw:=hW _ hm;rw[hm] at hT;simp -implicitDefEqProofs only[vQ,BD,↓reduceIte,jA,enP,beq_eq_false_iff_ne.2 n1,beq_eq_false_iff_ne.2 n2,beq_eq_false_iff_ne.2 n3,beq_eq_false_iff_ne.2 n4,beq_eq_false_iff_ne.2 n5,beq_eq_false_iff_ne.2 n6,beq_eq_false_iff_ne.2 n7,beq_eq_false_iff_ne.2 n8,beq_eq_false_iff_ne.2 n9,beq_eq_false_iff_ne.2 n10,beq_eq_false_iff_ne.2 n11,IJ q6 hx,IJ q7 hy];refine(AB6 G sX op x y hx hy ox oy).use (k:=fun r=>ret r) (by rw[J4]; exact hT) hb (hk.trans kX) ?_;intro r3 l3 H3 e3 hS s3 k3;have hS:ret r3 l3=TOT:=hS;have hr:=(hw r3 l3 e3).2.2.2.1;have q8:=k3.keep _ _ q8 (by omega);obtain⟨f1,f2,f3,f4⟩:=SY hr s3 (kX.trans k3) (c:=H.length+2) (by omega) (by omega) (by simp) q8;simp -implicitDefEqProofs only[vQ,BD,↓reduceIte,jA,enP,jO,f1];rw[I8 _ _ _ _ _ _ _ _ _ (show _=AV.ptr (H.length+2) 0 0 by simp -implicitDefEqProofs only[AA,↓reduceIte,jA]),IJ f2 hr];exact⟨_,rfl,_,_,hS.symm,rfl,f3,f4⟩
end
def fnm (x:ByteArray):List Vr->Option Nat
 | []=>none
 | v::r=>if JX x v=true then some 0 else (fnm x r).map (·+1)
theorem ZF (x:ByteArray):∀l:List Vr,match fnm x l with
  | some i=>plc l x=(i:Nat)∧i<l.length
  | none=>plc l x<0
 | []=>by simp [fnm,plc,MF]
 | v::r=>by
   have ih:=ZF x r;unfold plc at ih|-;unfold fnm MF;by_cases h:JX x v=true
   .rw[if_pos h,if_pos h]; simp
   .rw[if_neg h,if_neg h]
    cases hr:fnm x r with
    | none=>rw[hr] at ih; simp only[Option.map_none]; rw[if_pos ih]; decide
    | some i =>
      rw[hr] at ih;obtain⟨i1,i2⟩:=ih;simp only[Option.map_some];rw[if_neg (by omega),i1];exact⟨by omega,by simp; omega⟩
theorem AHA {x:ByteArray}{l:List Vr}{i:Nat}(h:fnm x l=some i):i<l.length:=by have:=ZF x l; rw[h] at this; exact this.2
def nmR:List Vr->Nat->List (AV×AV)
 | [],_=>[]
 | v::r,i=>(.str v.name,.int .i64 (i:Nat))::nmR r (i+1)
theorem AVQ (l:List Vr)(v:Vr):∀i,nmR (l++[v]) i=nmR l i++[(.str v.name,.int .i64 ((i+l.length:Nat):Int))]:=by
 induction l with
 | nil=>intro i; simp [nmR]
 | cons m r ih=>intro i; simp only[List.cons_append,nmR,zZ]; rw[ih (i+1),show i+1+r.length=i+(r.length+1) by omega]
theorem ANL:∀(l:List Vr) (i k:Nat),k<l.length->∃a,(nmR l i)[k]?=some (a,.int .i64 ((i+k:Nat):Int))
 | [],i,k,h=>by simp at h
 | n::r,i,0,_=>⟨_,by simp [nmR]; rfl⟩
 | n::r,i,k+1,h=>by
   simp only[nmR,jU];obtain⟨a,ha⟩:=ANL r (i+1) k (by simpa using h);exact⟨a,by rw[ha,show i+1+k=i+(k+1) by omega]⟩
theorem A0U:Tryz.prog.underlying 9=some .string:=by kernel_rfl
theorem AXS:Tryz.prog.underlying 76=some (.map 9 3):=by kernel_rfl
theorem kt9 (x:ByteArray):Q3 Tryz.prog 9 (.str x)=true:=by unfold Q3; rw[A0U]
theorem ke9 (x y:ByteArray):MW Tryz.prog 9 (.str x) (.str y)=some (x.toList==y.toList):=by unfold MW; rw[A0U]
theorem ADR (x:ByteArray):∀(l:List Vr) (i:Nat),RD Tryz.prog 9 (.str x) (nmR l i)=some (fnm x l)
 | [],i=>rfl
 | v::r,i=>by
   have ih:=ADR x r (i+1);have hc:(x.toList==v.name.toList)=JX x v:=by unfold JX; exact Bool.beq_comm
   simp only[nmR,RD,ke9,fnm,hc];by_cases h:JX x v=true
   .rw[if_pos h,h]
   .rw[if_neg h,show JX x v=false by simpa using h]
    simp only[ih];cases fnm x r<;>rfl
theorem ANV {H:Hp}{b:Nat}{l:List Vr}(hb:H[b]?=some (.map (nmR l 0)))(x:ByteArray)(ok:Bool):JZ Tryz.prog H 76 (.mp b) (.str x) ok=some (match fnm x l with
  | some i=>if ok then .tup [.int .i64 (i:Nat),.bool true] else .int .i64 (i:Nat)
  | none=>if ok then .tup [.int .i64 0,.bool false] else .int .i64 0):=by
 have hf:=ADR x l 0;unfold JZ;simp only[AXS,hb,kt9,if_true,hf,zr3]
 cases hx:fnm x l with
 | none=>rfl
 | some i =>
   obtain⟨a,ha⟩:=ANL l 0 i (AHA hx);rw[jG] at ha;simp [ha]
theorem AR4 {H:Hp}{b:Nat}{l:List Vr}(hb:H[b]?=some (.map (nmR l 0)))(v:Vr)(hv:fnm v.name l=none):J5 Tryz.prog H 76 (.mp b) (.str v.name) (.int .i64 (l.length:Nat))=some (H.set b (.map (nmR (l++[v]) 0))):=by
 have hf:=ADR v.name l 0;unfold J5;simp only[AXS,hb,kt9,if_true,hf,hv];rw[AVQ,jG]
structure VrOk (v:Vr) (lv:Int):Prop where
 st:v.mode=0->0<=v.value∧v.value<=65535
 rn:v.mode≠0->1<=v.width∧v.width<=8∧0<=lv∧lv+v.width<=20
def vbL (e:Nat):Nat->Nat->M (List Nat)
 | 0,_=>ret []
 | n+1,k=>(mk (e-1-k) 0 1).bnd fun b=>(vbL e n (k+1)).bnd fun r=>ret (b::r)
def AAF (v:Vr)(lv:Int):M Wrd:=if v.mode=0 then ret (cst v.value.toNat) else (vbL (lv+v.width).toNat v.width.toNat 0).bnd fun d=>ret (d++jJ (16-v.width.toNat) 0)
theorem AME {l:Dg}(v:VD l){lv:Nat}(h:lv<20):Sp l (mk lv 0 1) fun r l'=>r<l'.length∧Pw l' fun L=>∀β,ev L β r=β lv:=by
 refine(ANN v h v.p0 v.p1 (by rw[v.n0]; exact h) (by rw[v.n1]; exact h)).mono fun r l' v' x' q=>?_
 have key:r<l'.length∧∀β,ev l' β r=β lv:=by
  refine⟨?_,fun β=>?_⟩
  .first|exact q.1|exact q.2.1
  .have:=q.2.2 β
   simp [UL,AS8] at this;exact this
 exact⟨key.1,fun L vL xL β=>by rw[xL.ev v' vL β key.1]; exact key.2 β⟩
structure Pk (p:Pr) (lvs:List Int) (lm:SM) (mb:Nat) (rest:List AV):Prop where
 e:rest=EE p++[.sl lm 1 (lvs.map qencI),.mp mb]
 ok:∀(i:Nat) (hi:i<p.vars.length),VrOk p.vars[i] (lvs.getD i 0)
 ln:lvs.length=p.vars.length
theorem Pk.n {p:Pr}{lvs:List Int}{lm:SM}{mb:Nat}{rest:List AV}(k:Pk p lvs lm mb rest):rest.length=7:=by rw[k.e]; rfl
section
variable (G:Nat->AV) {bb:Nat} {rest:List AV} {p:Pr} {lvs:List Int} {lm:SM} {mb:Nat}
theorem Pk.l1 (k:Pk p lvs lm mb rest){l:Dg}{H:Hp}(s:PS bb rest l H):DF Tryz.prog H 22 (.ptr bb 0 1)=some (.sl p.vm 4 (p.vars.map FI)):=by
 obtain⟨m,h⟩:=s.b;rw[DJ TU h (row:=.sl m 3 (l.map DY)::rest) rfl,k.e]; rfl
theorem Pk.l6 (k:Pk p lvs lm mb rest){l:Dg}{H:Hp}(s:PS bb rest l H):DF Tryz.prog H 29 (.ptr bb 0 6)=some (.sl lm 1 (lvs.map qencI)):=by
 obtain⟨m,h⟩:=s.b;rw[DJ AQD h (row:=.sl m 3 (l.map DY)::rest) rfl,k.e]; rfl
theorem Pk.l7 (k:Pk p lvs lm mb rest){l:Dg}{H:Hp}(s:PS bb rest l H):DF Tryz.prog H 76 (.ptr bb 0 7)=some (.mp mb):=by
 obtain⟨m,h⟩:=s.b;rw[DJ A3S h (row:=.sl m 3 (l.map DY)::rest) rfl,k.e]; rfl
theorem AM1 {α:Type}(e n k:Nat)(d:Wrd)(K:Wrd->M α):((vbL e (n+1) k).bnd fun r=>K (d++r))=(mk (e-1-k) 0 1).bnd fun a=>(vbL e n (k+1)).bnd fun r=>K ((d++[a])++r):=by
 show((mk (e-1-k) 0 1).bnd fun a=>(vbL e n (k+1)).bnd fun s=>ret (a::s)).bnd _=_;rw[G9];refine congrArg (M.bnd _) (funext fun a=>?_);rw[G9];refine congrArg (M.bnd _) (funext fun r=>?_);show K (d++(a::r))=_;rw[zJ]; rfl
set_option maxHeartbeats 4000000 in
theorem AER {H:Hp}{l:Dg}(s:PS bb rest l H)(hP:Pk p lvs lm mb rest)(hmb:H[mb]?=some (.map (nmR p.vars 0)))(x:ByteArray)(i:Nat)(hi:fnm x p.vars=some i)(hil:i<p.vars.length):Ct G bb rest 75 [.ptr bb 0 0,.str x] H l (AAF p.vars[i] (lvs.getD i 0)) wA:=by
 intro base Bad hk hb;have hok:=hP.ok i hil;have hiv:i<lvs.length:=by rw[hP.ln]; exact hil
 have llv:DF Tryz.prog H 3 (.fptr 1 (lvs.map qencI) i 0)=some (.int .i64 (lvs.getD i 0)):=by
  rw[FX ag3 hiv,zM,jX hiv]; rfl
 have llv:∀H:Hp,DF Tryz.prog H 3 (.fptr 1 (lvs.map qencI) i 0)=some (.int .i64 (lvs.getD i 0)):=fun H=>llv
 generalize lvs.getD i 0=lv at hok llv hb|-;have lvv:∀H:Hp,DF Tryz.prog H 65 (.fptr 4 (p.vars.map FI) i 0)=some (.agg (FI p.vars[i])):=fun H=>ldV hil
 generalize p.vars[i]=v at hok lvv hb|-;generalize hT:AAF v lv l=TOT at hb;refine IV (H:=Hint.none) (enM G) Tryz.func75 rfl (by kernel_rfl) (by kernel_rfl) (jH (by kernel_rfl)) ?_;show awp _ _ _ _ _ (EK _ [.cell 4 74] _);have sl:=s.lt;have ml:=CB hmb;have q4:isW (H++[ABlk.live 16 [cW (jJ 16 0)]]) H.length (jJ 16 0):=CU _ _;have s0:=s.app (ABlk.live 16 [cW (jJ 16 0)]);have k0:=(Kb.rfl' bb H).app (ABlk.live 16 [cW (jJ 16 0)]);have m0:(H++[ABlk.live 16 [cW (jJ 16 0)]])[mb]?=some (.map (nmR p.vars 0)):=BO hmb;have e0:(H++[ABlk.live 16 [cW (jJ 16 0)]]).length=H.length+1:=by simp
 have lk:=ANV m0 x false;rw[hi] at lk;have lk:JZ Tryz.prog (H++[ABlk.live 16 [cW (jJ 16 0)]]) 76 (.mp mb) (.str x) false=some (.int .i64 (i:Nat)):=lk;simp -implicitDefEqProofs only[vQ,BD,↓reduceIte,jA,enP,ALW,TT];generalize H++[ABlk.live 16 [cW (jJ 16 0)]]=A at q4 s0 k0 m0 e0 lk|-;have a1:DF Tryz.prog A 22 (.ptr bb 0 1)=some (.sl p.vm 4 (p.vars.map FI)):=hP.l1 s0;have a7:DF Tryz.prog A 76 (.ptr bb 0 7)=some (.mp mb):=hP.l7 s0;simp -implicitDefEqProofs only[vQ,BD,TD,↓reduceIte,jA,enP,KC,AZZ,a7,lk];simp -implicitDefEqProofs only[vQ,BD,↓reduceIte,jA,enP,QP,NC,jO,a1,EZ hil,lvv,Bd.al61,Bd.st61];have q4:isW (A++[ABlk.live 4 [FI v]]) H.length (jJ 16 0):=BO q4;have q6:(A++[ABlk.live 4 [FI v]])[A.length]?=some (.live 4 [FI v]):=CU _ _;have s0:=s0.app (ABlk.live 4 [FI v]);have k0:=k0.app (ABlk.live 4 [FI v]);have ex:ext A (A++[ABlk.live 4 [FI v]]):=⟨_,rfl⟩;generalize A++[ABlk.live 4 [FI v]]=B at q4 q6 s0 k0 ex|-;have lB:=CB q6;have g1:∀ {H':Hp},H'[A.length]?=some (.live 4 [FI v])->DF Tryz.prog H' 3 (.ptr A.length 0 1)=some (.int .i64 v.width):=fun q=>by rw[DJ ag3 q rfl]; rfl
 have g2:DF Tryz.prog B 3 (.ptr A.length 0 2)=some (.int .i64 v.mode):=by rw[DJ ag3 q6 rfl]; rfl
 have g3:DF Tryz.prog B 3 (.ptr A.length 0 3)=some (.int .i64 v.value):=by rw[DJ ag3 q6 rfl]; rfl
 simp -implicitDefEqProofs only[vQ,BD,↓reduceIte,enP,g2];refine C9 (fun hc=>?_) (fun hc=>?_)
 .have hm:v.mode=0:=by simpa using hc
  obtain⟨z0,z1⟩:=hok.st hm;obtain⟨z,hz⟩:=qM z0;unfold AAF at hT;rw[if_pos hm] at hT;rw[hz] at g3 z1;have hT:ret (cst z) l=TOT:=by rw[<-hT,hz]; rfl
  simp -implicitDefEqProofs only[vQ,BD,↓reduceIte,jA,enP,VN,g3];refine(pcX (OI G z (by omega) B)).use ?_;obtain⟨f1,f2,f3,f4⟩:=SY (H8 z) s0 k0 (c:=H.length) (by omega) (by omega) (by simp) q4;simp -implicitDefEqProofs only[vQ,BD,↓reduceIte,jA,enP,jO,f1];rw[I8 _ _ _ _ _ _ _ _ _ (show _=AV.ptr H.length 0 0 by simp -implicitDefEqProofs only[AA,↓reduceIte,jA]),IJ f2 (H8 z)];exact⟨_,rfl,_,_,hT.symm,rfl,f3,f4⟩
 .have hm:¬v.mode=0:=by simpa using hc
  obtain⟨w1,w8,lv0,lv20⟩:=hok.rn hm;obtain⟨w,hw⟩:=qM (show 0<=v.width by omega);obtain⟨u,hu⟩:=qM lv0;subst hu;rw[hw] at g1 w1 w8 lv20;unfold AAF at hT;rw[if_neg hm,hw,show((u:Int)+(w:Int)).toNat=u+w by omega,Int.toNat_natCast] at hT
  let K:Wrd->M Wrd:=fun d=>ret (d++jJ (16-w) 0)
  have hT:((vbL (u+w) w 0).bnd fun r=>K ([]++r)) l=TOT:=hT;simp -implicitDefEqProofs only[vQ,BD,↓reduceIte,jA,enP,LV,TT,g1 (BO q6)];have q4:isW (B++[ABlk.live 16 [cW (jJ 16 0)]]) H.length (jJ 16 0):=BO q4;have q6:(B++[ABlk.live 16 [cW (jJ 16 0)]])[A.length]?=some (.live 4 [FI v]):=BO q6;have q7:isW (B++[ABlk.live 16 [cW (jJ 16 0)]]) B.length (jJ 16 0):=CU _ _;have s0:=s0.app (ABlk.live 16 [cW (jJ 16 0)]);have k0:=k0.app (ABlk.live 16 [cW (jJ 16 0)]);have hlC:B.length<(B++[ABlk.live 16 [cW (jJ 16 0)]]).length:=by simp
  generalize B++[ABlk.live 16 [cW (jJ 16 0)]]=C at q4 q6 q7 s0 k0 hlC|-;refine GI 0 (fun F H'=>∃d l',d.length=16∧TOT=some (d,l')∧PS bb rest l' H'∧Kb bb H H'∧isW H' B.length d∧isW H' H.length (jJ 16 0)∧F 4=.ptr H.length 0 0∧F 7=.ptr B.length 0 0) (fun _ _=>False) ?_ ?_ (fun _ _ q=>q.elim)
  .refine D7 (fun n F H'=>∃k d l',n+k=w∧d.length=k∧((vbL (u+w) n k).bnd fun r=>K (d++r)) l'=TOT∧PS bb rest l' H'∧Kb bb H H'∧isW H' H.length (jJ 16 0)∧H'[A.length]?=some (.live 4 [FI v])∧isW H' B.length (d++jJ (16-k) 0) ∧
    F 0=.ptr bb 0 0∧F 4=.ptr H.length 0 0∧F 5=.int .i64 (i:Nat)∧F 6=.ptr A.length 0 0∧F 7=.ptr B.length 0 0∧F 30=.int .i64 (w:Nat)∧F 31=.int .i64 (k:Nat)) w
    ⟨0,[],l,by omega,rfl,hT,s0,k0,q4,q6,q7,by simp -implicitDefEqProofs only[vQ,↓reduceIte,jA],by simp -implicitDefEqProofs only[AA,↓reduceIte,jA],by simp -implicitDefEqProofs only[AA,↓reduceIte,jA],by simp -implicitDefEqProofs only[AA,↓reduceIte,jA],by simp -implicitDefEqProofs only[AA,↓reduceIte,jA],by simp -implicitDefEqProofs only[AA,↓reduceIte,jA],by simp -implicitDefEqProofs only[AA,↓reduceIte]; rfl⟩ ?_
   clear q4 q6 q7 s0 k0 hlC;rintro n F H0 ⟨k,d,l0,hn,hd,hS,s',k',q4,q6,q7,f0,f4,f5,f6,f7,f30,f31⟩;have ec:decide (((k:Nat):Int)<(w:Nat))=decide (k<w):=by rw[decide_eq_decide]; omega
   simp -implicitDefEqProofs only[vQ,BD,↓reduceIte,enP,f30,f31,ec];refine C9 (fun hc=>?_) (fun hc=>?_)
   .have hk':k<w:=by simpa using hc
    obtain⟨n,rfl⟩:∃n',n=n'+1:=⟨n-1,by omega⟩
    rw[AM1] at hS;obtain⟨m,hl⟩:=s'.ld;have a6:DF Tryz.prog H0 29 (.ptr bb 0 6)=some (.sl lm 1 (lvs.map qencI)):=hP.l6 s';have z1:IntKind.i64.wrap ((u:Int)+(w:Int))=((u+w:Nat):Int):=by rw[wrap_i64 (by omega) (by omega)]; omega
    have z2:IntKind.i64.wrap (((u+w:Nat):Int)-1)=((u+w-1:Nat):Int):=by rw[wrap_i64 (by omega) (by omega)]; omega
    have z3:IntKind.i64.wrap (((u+w-1:Nat):Int)-(k:Nat))=((u+w-1-k:Nat):Int):=by rw[wrap_i64 (by omega) (by omega)]; omega
    have hlv:u+w-1-k<20:=by omega
    simp -implicitDefEqProofs only[vQ,BD,↓reduceIte,jA,f31];refine EW (.ones [0,1,2,3,4,5,6,7,8,9,10,11,12,13,14,15,16,17,18,19,20,21,22] (.alt 23 (.ones [24,25] .done) .non)) (by kernel_rfl) ?_;simp only[DN,IE,jU,jT];simp -implicitDefEqProofs only[vQ,MH,BD,LG,↓reduceIte,jA,jM,enP,KT,LV,S9,AZY,f0,f5,f6,f31,hl,a6,EZ hiv,llv,g1 q6,z1,z2,z3];have b0:=s'.lt;have kl:=k'.len
    obtain⟨yd,y1,y2,e,hc⟩:∃(x:AV) (y z:Int),dgV (mk (u+w-1-k) 0 1 l0)=.tup [.agg [x],.int .i64 y,.int .i64 z]∧∀K:AV->Hp->Prop,(∀r l' H',mk (u+w-1-k) 0 1 l0=some (r,l')->PS bb rest l' H'->Kb bb H0 H'->K (iA r) H')->ACalls ((En G).wx (X0 bb base Bad)) 138 [.ptr bb 0 0,.agg [x],.int .i64 y,.int .i64 z] H0 K:=by
     obtain⟨x,y,z,e,hc⟩:=kept G s' (m:=mk (u+w-1-k) 0 1) (fun r l1 e=>(AME s'.v hlv r l1 e).1) (base:=base) (Bad:=Bad) (K:=fun v H'=>∃r l',mk (u+w-1-k) 0 1 l0=some (r,l')∧PS bb rest l' H'∧Kb bb H0 H'∧v=iA r) (hk.trans k') (fun q=>hb (by rw[<-hS,RJ q])) fun r l' H' e s k=>⟨r,l',e,s,k,rfl⟩
     exact⟨x,y,z,e,fun K hK=>ACalls.mono hc fun v H' ⟨r,l',e,s,k,hv⟩=>by rw[hv]; exact hK r l' H' e s k⟩
    refine⟨_,pcX (by have:=ATT G l0 m s'.v _ hlv H0; rw[e] at this; exact this),?_⟩;simp -implicitDefEqProofs only[vQ,jT,jU,MH,↓reduceIte,jA,jM];refine⟨hc _ fun a l1 H1 ea s1 k1=>?_,trivial⟩;rw[NZ ea] at hS;have q4:=k1.keep _ _ q4 (by omega);have q6:=k1.keep _ _ q6 (by omega);have q7:=k1.keep _ _ q7 (by omega);have hst:=stW (n:=a) q7 (i:=k) (by rw[IL hd (by omega)]; omega);rw[MX hd (by omega)] at hst;simp -implicitDefEqProofs only[vQ,BD,↓reduceIte,jA,enP,jO,f7,f31,QO (show k<16 by omega),hst,wrap_succ (show k<9223372036854775807 by omega)];have ne:∀ {c:Nat} {y B':ABlk},H1[c]?=some y->c≠B.length->(H1.set B.length B')[c]?=some y:=fun q hne=>by rw[jS (Ne.symm hne)]; exact q
    refine⟨n,by omega,k+1,d++[a],l1,by omega,by simp [hd],hS,s1.set (by omega) _,(k'.trans k1).setN (by omega) _,ne q4 (by omega),ne q6 (by omega),DX q7,by trivial,by trivial,by trivial,by trivial,by trivial,by trivial,by trivial⟩
   .have hk':k=w:=by have hc':¬k<w:=fun q=>by rw[decide_eq_true q] at hc; cases hc
                     omega
    subst hk';have:n=0:=by omega
    subst this;have hS:ret (d++jJ (16-k) 0) l0=TOT:=by rw[<-hS]; show K d l0=K (d++[]) l0; rw[jD]
    simp -implicitDefEqProofs only[vQ,↓reduceIte,jA];exact⟨_,l0,by simp; omega,hS.symm,s',k',q7,q4,f4,f7⟩
  .rintro F H' ⟨d,l',hd,e,s',k',q7,q4,f4,f7⟩
   simp -implicitDefEqProofs only[vQ,BD,↓reduceIte,jA,enP,jO,f4,f7,IJ q7 hd,U7 q4 (by simp) hd];rw[I8 _ _ _ _ _ _ _ _ _ (show _=AV.ptr H.length 0 0 by first|exact f4|(simp -implicitDefEqProofs only[f4])),IJ (DX q4) hd];exact⟨_,rfl,d,l',e,rfl,s'.set (by omega) _,k'.setN (by omega) _⟩
end
def Vs (l:Dg)(m:M Wrd)(V:Dg->(Nat->Bool)->Nat):Prop:=Sp l m fun r l'=>(r.length=16∧LOk l' r)∧Pw l' fun L=>∀β,val L β r=V L β
theorem Vs.ws {l:Dg}{m:M Wrd}{V:Dg->(Nat->Bool)->Nat}(h:Vs l m V):Ws l m:=Ws.of h
theorem A0Y (b:Bool):tn b=tr b:=rfl
theorem Vs.sgl {l:Dg}{m:M Nat}{T:Dg->(Nat->Bool)->Bool}(h:Sp l m fun r l'=>r<l'.length∧Pw l' fun L=>∀β,ev L β r=T L β):Vs l (m.bnd fun r=>ret (Bl.sgl r)) fun L β=>tr (T L β) :=
 h.bnd fun r l1 v1 _ q=>Sp.ret v1 ⟨⟨JQ r,LOk.sgl v1 q.1⟩,fun L vL xL β=>by rw[AM3,q.2 L vL xL β,A0Y]⟩
theorem Vs.cast {l:Dg}{m:M Wrd}{V W:Dg->(Nat->Bool)->Nat}(h:Vs l m V)(e:∀L β,V L β=W L β):Vs l m W:=Sp.mono h fun _ _ _ _ q=>⟨q.1,fun L vL xL β=>by rw[q.2 L vL xL β,e]⟩
theorem ART (L:Dg)(β:Nat->Bool):∀xs:List Nat,onV L β xs=NQ (val L β xs) xs.length:=by
 have step:∀(k o m:Nat),o<2->NQ (o+2*m) (k+1)=o+NQ m k:=by
  intro k
  induction k with
  | zero =>
    intro o m ho;show 0+AA8 (o+2*m) 0=o+0;unfold AA8;rw[Nat.pow_zero,Nat.div_one]; omega
  | succ k ih =>
    intro o m ho;show NQ (o+2*m) (k+1)+AA8 (o+2*m) (k+1)=o+(NQ m k+AA8 m k);rw[ih o m ho]
    have:AA8 (o+2*m) (k+1)=AA8 m k:=by
     unfold AA8;rw[Nat.pow_succ,Nat.mul_comm (2^k) 2,<-Nat.div_div_eq_div_mul,show(o+2*m)/2=m by omega]
    omega
 intro xs
 induction xs with
 | nil=>rfl
 | cons x xs ih =>
   simp only[onV,val,zZ];rw[step _ _ _ (AIF _),ih]
theorem AY8 (a b:Nat):AKZ true a b=AY6 a (b:Nat):=by
 unfold AKZ AY6;by_cases h:b<16
 .rw[if_pos h,if_pos rfl,if_neg (by omega)]; rfl
 .rw[if_neg h,if_pos (by omega)]
theorem AY7 (a b:Nat):AKZ false a b=AES a (b:Nat):=by
 unfold AKZ AES;by_cases h:b<16
 .rw[if_pos h,if_neg (by decide),if_neg (by omega)]; rfl
 .rw[if_neg h,if_pos (by omega)]
section
variable {l:Dg} (v:VD l) {x y:Wrd} (hx:x.length=16) (hy:y.length=16) (ox:LOk l x) (oy:LOk l y)
include v hx hy ox oy
theorem AQS (op:Nat->Nat->M Nat)(b:B3)(h:∀f g,op f g=ap b f g g)(f:Nat->Nat->Nat)(hf:∀a c,a<65536->c<65536->f a c<65536)(hb:∀a c i,(f a c).testBit i=b (a.testBit i) (c.testBit i) (c.testBit i)) :
  Vs l (pr2 op x y) fun L β=>f (val L β x) (val L β y) :=
 (AC9 op (fun _ _ p q=>b p q q) l (fun l' f g v' _ hf hg=>by rw[h]; exact UX b v' hf hg hg) x y l v (Xt.rfl' l) (by omega) ox oy).mono fun r _ _ _ q=>⟨⟨by omega,q.1.2⟩,fun L vL xL β=>by
  have h1:=QV L β x;have h2:=QV L β y;rw[hx] at h1;rw[hy] at h2;refine QW (by omega) (hf _ _ h1 h2) fun k hk=>?_
  rw[q.2 L vL xL β k (by omega),hb,SG,SG]⟩
theorem AYY (op:Int)(hop:7<=op∧op<=21):Vs l (PL op x y) fun L β=>dbW op (val L β x) (val L β y):=by
 have hcase:op=7∨op=8∨op=9∨op=10∨op=11∨op=12∨op=13∨op=14∨op=15∨op=16∨op=17∨op=18∨op=19∨op=20∨op=21:=by omega
 have lt16:∀(L:Dg) (β:Nat->Bool),val L β x<65536∧val L β y<65536:=fun L β=>⟨by have:=QV L β x; rw[hx] at this; exact this,by have:=QV L β y; rw[hy] at this; exact this⟩
 rcases hcase with rfl|rfl|rfl|rfl|rfl|rfl|rfl|rfl|rfl|rfl|rfl|rfl|rfl|rfl|rfl
 .show Vs l (PI x y 0) fun L β=>(val L β x+val L β y)%65536
  refine(PY x y l 0 v (by omega) ox oy v.p0).mono fun r _ _ _ q=>⟨⟨by omega,q.1.2⟩,fun L vL xL β=>?_⟩
  rw[q.2 L vL xL β,hx,UL]; rfl
 .show Vs l (AA3 x y) fun L β=>(val L β x+65536-val L β y)%65536
  exact ACK v hx hy ox oy
 .show Vs l (XN x 0 y (cst 0)) fun L β=>val L β x*val L β y%65536
  refine(ACC x hx y 0 l (cst 0) v (by omega) ox oy (H8 0) (LOk.cst v 0)).mono fun r _ _ _ q=>⟨q.1,fun L vL xL β=>?_⟩
  rw[q.2 L vL xL β,V7]; simp
 .exact AQS v hx hy ox oy KA AKC (fun _ _=>rfl) (fun a b=>a &&& b) (fun a c h1 h2=>Nat.lt_of_le_of_lt Nat.and_le_left h1) fun a c i=>Nat.testBit_and a c i
 .exact AQS v hx hy ox oy oOr bOr (fun _ _=>rfl) (fun a b=>a ||| b) (fun a c h1 h2=>Nat.or_lt_two_pow (n:=16) h1 h2) fun a c i=>Nat.testBit_or a c i
 .exact AQS v hx hy ox oy NS AKB (fun _ _=>rfl) (fun a b=>a ^^^ b) (fun a c h1 h2=>Nat.xor_lt_two_pow (n:=16) h1 h2) fun a c i=>by rw[Nat.testBit_xor]; rfl
 .exact Vs.cast (VB true v hx hy ox oy) fun L β=>AY8 _ _
 .exact Vs.cast (VB false v hx hy ox oy) fun L β=>AY7 _ _
 .refine Vs.cast (Vs.sgl (VP x y l 1 v (by omega) ox oy v.p1)) fun L β=>?_
  show _=tr _;rw[AS8,qF]
 .show Vs l ((eqL x y 1).bnd fun e=>(LQ e).bnd fun r=>ret (sgl r)) _
  refine(VP x y l 1 v (by omega) ox oy v.p1).bnd ?_;rintro n l3 v3 x3 ⟨h3,e3⟩;refine Sp.mono (Vs.sgl (OE v3 h3)) fun r l4 v4 x4 q=>⟨q.1,fun L vL xL β=>?_⟩
  rw[q.2 L vL xL β];show tr (!ev L β n)=_;rw[e3 L vL (x4.trans xL),AS8,qF]; rfl
 .refine Vs.cast (Vs.sgl (UJ x y l 0 v (by omega) ox oy v.p0)) fun L β=>?_
  show _=tr _;rw[UL,Bool.and_false,jV]
 .show Vs l ((lsL y x 0).bnd fun e=>(LQ e).bnd fun r=>ret (sgl r)) _
  refine(UJ y x l 0 v (by omega) oy ox v.p0).bnd ?_;rintro n l3 v3 x3 ⟨h3,e3⟩;refine Sp.mono (Vs.sgl (OE v3 h3)) fun r l4 v4 x4 q=>⟨q.1,fun L vL xL β=>?_⟩
  rw[q.2 L vL xL β];show tr (!ev L β n)=tr _;rw[e3 L vL (x4.trans xL),UL,Bool.and_false,jV];congr 1;rw[Bool.eq_iff_iff]; simp
 all_goals
  show Vs l (lgL _ x y) _;unfold lgL;refine(QI x l 0 v ox v.p0).bnd ?_;rintro s l1 v1 x1 ⟨h1,e1⟩;refine(QI y l1 0 v1 (oy.go x1) v1.p0).bnd ?_;rintro t l2 v2 x2 ⟨h2,e2⟩
 .rw[if_pos rfl]
  refine Sp.mono (Vs.sgl (O8 v2 (x2.lt h1) h2)) fun r l4 v4 x4 q=>⟨q.1,fun L vL xL β=>?_⟩
  rw[q.2 L vL xL β];show tr (ev L β s&&ev L β t)=tr _;rw[e2 L vL (x4.trans xL),e1 L vL (x2.trans (x4.trans xL)),UL,qG,qG]
 .rw[if_neg (by decide),if_pos rfl]
  refine Sp.mono (Vs.sgl (U0 v2 (x2.lt h1) h2)) fun r l4 v4 x4 q=>⟨q.1,fun L vL xL β=>?_⟩
  rw[q.2 L vL xL β];show tr (ev L β s||ev L β t)=tr _;rw[e2 L vL (x4.trans xL),e1 L vL (x2.trans (x4.trans xL)),UL,qG,qG]
 .rw[if_neg (by decide),if_neg (by decide)]
  refine(OE v2 (x2.lt h1)).bnd ?_;rintro n l3 v3 x3 ⟨h3,e3⟩;refine Sp.mono (Vs.sgl (U0 v3 h3 (x3.lt h2))) fun r l4 v4 x4 q=>⟨q.1,fun L vL xL β=>?_⟩
  have X3:=x4.trans xL;have X2:=x3.trans X3;rw[q.2 L vL xL β];show tr (ev L β n||ev L β t)=tr _;rw[e3 L vL X3,e2 L vL X2,e1 L vL (x2.trans X2),UL];simp
end
def bv (β:Nat->Bool)(e:Nat):Nat->Nat->Nat
 | 0,_=>0
 | n+1,k=>tn (β (e-1-k))+2*bv β e n (k+1)
def vrV (v:Vr)(lv:Int)(β:Nat->Bool):Nat:=if v.mode=0 then v.value.toNat else bv β (lv+v.width).toNat v.width.toNat 0
theorem AQU (e:Nat)(he:e<=20):∀(n k:Nat) (l:Dg),VD l->k+n<=e->Sp l (vbL e n k) fun r l'=>(r.length=n∧LOk l' r)∧Pw l' fun L=>∀β,val L β r=bv β e n k
 | 0,k,l,v,_=>Sp.ret v ⟨⟨rfl,LOk.nil l⟩,fun L _ _ β=>rfl⟩
 | n+1,k,l,v,hk=>by
   unfold vbL;refine(AME v (show e-1-k<20 by omega)).bnd ?_;rintro b l1 v1 x1 ⟨h1,e1⟩;refine(AQU e he n (k+1) l1 v1 (by omega)).bnd ?_;rintro r l2 v2 x2 ⟨⟨h2,h2'⟩,e2⟩;refine Sp.ret v2 ⟨⟨by simp [h2],LOk.cons (x2.lt h1) h2'⟩,fun L vL xL β=>?_⟩;simp only[val,bv];rw[e2 L vL xL,e1 L vL (x2.trans xL)]
theorem AM2 {l:Dg}(v:VD l)(x:Vr)(lv:Int)(h:VrOk x lv):Vs l (AAF x lv) fun _ β=>vrV x lv β:=by
 unfold AAF vrV;by_cases hm:x.mode=0
 .rw[if_pos hm]
  obtain⟨z0,z1⟩:=h.st hm;refine Sp.ret v ⟨⟨H8 _,LOk.cst v _⟩,fun L _ _ β=>?_⟩;rw[V7,Nat.mod_eq_of_lt (by omega)];exact(if_pos hm).symm
 .rw[if_neg hm]
  obtain⟨w1,w8,l0,l20⟩:=h.rn hm;refine(AQU _ (by omega) x.width.toNat 0 l v (by omega)).bnd ?_;rintro r l2 v2 x2 ⟨⟨h2,h2'⟩,e2⟩;refine Sp.ret v2 ⟨⟨by simp [h2]; omega,h2'.app (LOk.zeros v2 _)⟩,fun L vL xL β=>?_⟩;rw[AGO,V6,e2 L vL xL,Nat.mul_zero,jL];exact(if_neg hm).symm
def wOp (p:Pr)(lvs:List Int)(op n:Int)(name:ByteArray)(ws:List Wrd):M Wrd :=
 if op=1 then ret (cst n.toNat) else if op=2 then (match fnm name p.vars with
  | some i=>match p.vars[i]? with
    | some v=>AAF v (lvs.getD i 0)
    | none=>ret []
  | none=>ret [])
 else if op=4 then (trL (ws.getD 0 []) 0).bnd fun t=>(LQ t).bnd fun r=>ret (sgl r)
 else if op=5 then cmpL (ws.getD 0 [])
 else if op=6 then AA3 (cst 0) (ws.getD 0 [])
 else if op=25 then onL (ws.getD 0 []) (cst 0)
 else if op=23 then (insL (ws.getD 0 []) (ws.drop 1) 0).bnd fun r=>ret (sgl r)
 else if op=22 then (trL (ws.getD 0 []) 0).bnd fun c=>pr2 (oCh c) (ws.getD 1 []) (ws.getD 2 [])
 else PL op (ws.getD 0 []) (ws.getD 1 [])
mutual
def RV (p:Pr)(lvs:List Int):Ex->M Wrd
 | .mk op n name _ args=>(SC p lvs args).bnd fun ws=>wOp p lvs op n name ws
def SC (p:Pr)(lvs:List Int):List Ex->M (List Wrd)
 | []=>ret []
 | e::es=>(RV p lvs e).bnd fun w=>(SC p lvs es).bnd fun ws=>ret (w::ws)
end
theorem AGI (p:Pr)(lvs:List Int)(e:Ex):RV p lvs e=(SC p lvs e.args).bnd fun ws=>wOp p lvs e.op e.n e.name ws:=by cases e; simp [RV,Ex.op,Ex.n,Ex.name,Ex.args]
theorem AAC (p:Pr)(lvs:List Int):SC p lvs []=ret []:=by simp [SC]
theorem XE (p:Pr)(lvs:List Int)(e:Ex)(es:List Ex):SC p lvs (e::es)=(RV p lvs e).bnd fun w=>(SC p lvs es).bnd fun ws=>ret (w::ws):=by simp [SC]
structure NOk (p:Pr) (e:Ex):Prop where
 nd:JW e=0
 na:e.op≠3∧e.op≠24
 vr:e.op=2->∃i,fnm e.name p.vars=some i
def POk (p:Pr)(lvs:List Int):Prop:=∀(i:Nat) (hi:i<p.vars.length),VrOk p.vars[i] (lvs.getD i 0)
def Agr (p:Pr)(lvs:List Int)(β:Nat->Bool)(l:List Sg):Prop:=∀(name:ByteArray) (i:Nat) (hi:i<p.vars.length),fnm name p.vars=some i->ZJ l name=(vrV p.vars[i] (lvs.getD i 0) β,true)
theorem ADA {e:Ex}(h:JW e=0):1<=e.op∧e.op<=25:=by
 unfold JW at h;cases hb:UT e
 .unfold UT at hb; simp at hb; omega
 .rw[hb] at h; simp at h
theorem AAL {e:Ex}(h:JW e=0):WS e.op e.args.length=true:=by
 unfold JW at h
 have hO:UT e=false:=by
  cases hb:UT e
  .rfl
  .rw[hb] at h; simp at h
 have hN:AEA e=false:=by
  cases hb:AEA e
  .rfl
  .rw[hO,hb] at h; simp at h
 have hS:AA9 e=false:=by
  cases hb:AA9 e
  .rfl
  .rw[hO,hN,hb] at h; simp at h
 unfold AA9 at hS;rw[Bool.or_eq_false_iff] at hS;simpa using hS.2
theorem ar1 {e:Ex}(h:JW e=0)(hq:e.op=4∨e.op=5∨e.op=6∨e.op=25):e.args.length=1:=by
 have hops:=AAL h;unfold WS at hops;rw[if_neg (by simp; omega)] at hops;have h5:arity e.op=1:=by unfold arity; rw[if_neg (by omega),if_neg (by omega),if_pos (by omega)]
 have h6:((e.args.length:Nat):Int)=arity e.op:=by simpa using hops
 omega
theorem ar2 {e:Ex}(h:JW e=0)(hq:7<=e.op∧e.op<=21):e.args.length=2:=by
 have hops:=AAL h;unfold WS at hops;rw[if_neg (by simp; omega)] at hops;have h5:arity e.op=2:=by unfold arity; rw[if_neg (by omega),if_neg (by omega),if_neg (by omega),if_neg (by omega),if_neg (by omega)]
 have h6:((e.args.length:Nat):Int)=arity e.op:=by simpa using hops
 omega
theorem ASI (L:Dg)(β:Nat->Bool)(x:Nat):∀(n:Nat) (ws:List Wrd),ws.length<=n->ALN L β x ws=AV6 x (ws.map (val L β))
 | _,[],_=>rfl
 | _,[_],_=>rfl
 | 0,_::_::_,h=>by simp at h
 | n+1,a::b::r,h=>by
   simp only[ALN,jF,AV6];rw[ASI L β x n r (by simp at h; omega)]
theorem APH (a:Nat):NQ a 16%65536=NQ a 16:=by have:=AAK a 16; omega
theorem AWU {a b:Nat}(h:a+b=65535):a=65535-b:=by omega
theorem AYX {p:Pr}{lvs:List Int}(hp:POk p lvs){e:Ex}(he:NOk p e){l:Dg}(v:VD l){ws:List Wrd}(hl:ws.length=e.args.length)(hw:∀w∈ws,w.length=16∧LOk l w) :
  Sp l (wOp p lvs e.op e.n e.name ws) fun r l'=>(r.length=16∧LOk l' r)∧Pw l' fun L=>∀β env,Agr p lvs β env->val L β r=AID env e.op e.n e.name (ws.map (val L β)):=by
 obtain⟨o1,_,oo⟩:=ADB he.nd;have hr:=ADA he.nd;obtain⟨n3,n24⟩:=he.na
 have gd:∀k,k<ws.length->(ws.getD k []).length=16∧LOk l (ws.getD k []):=fun k hk=>by
  rw[zM,jX hk]; exact hw _ (List.getElem_mem hk)
 have gm:∀(L:Dg) (β:Nat->Bool) (k:Nat),k<ws.length->(ws.map (val L β)).getD k 0=val L β (ws.getD k []):=fun L β k hk=>by
  rw[zM,zM,zL,jX hk]; rfl
 unfold wOp;by_cases h1:e.op=1
 .rw[if_pos h1]
  refine Sp.ret v ⟨⟨H8 _,LOk.cst v _⟩,fun L _ _ β env _=>?_⟩;unfold AID;rw[if_pos h1,V7]
 rw[if_neg h1];by_cases h2:e.op=2
 .rw[if_pos h2]
  obtain⟨i,hi⟩:=he.vr h2;have hil:=AHA hi;rw[hi];simp only[jX hil];refine Sp.mono (AM2 v _ _ (hp i hil)) fun r l' _ _ q=>⟨q.1,fun L vL xL β env ha=>?_⟩
  unfold AID;rw[if_neg h1,if_pos h2,ha _ i hil hi,q.2 L vL xL β]
 rw[if_neg h2];obtain⟨c22,c23,c1⟩:=oo h1 h2 n3 n24;rw[<-hl] at c22 c23 c1;have hvo:∀(env:List Sg) (us:List Nat),AID env e.op e.n e.name us=opW e.op us:=fun env us=>by unfold AID; rw[if_neg h1,if_neg h2,if_neg n3,if_neg n24]
 have pos:0<ws.length:=by
  by_cases q:e.op=22
  .have:=c22 q; omega
  by_cases q':e.op=23
  .have:=c23 q'; omega
  .have:=c1 q q'; omega
 obtain⟨x1,ox1⟩:=gd 0 pos
 have one:e.op≠22->e.op≠23->ws.length=1->∀(L:Dg) (β:Nat->Bool) (env:List Sg),AID env e.op e.n e.name (ws.map (val L β))=sgW e.op (val L β (ws.getD 0 [])):=fun a b c L β env=>by
  rw[hvo]; unfold opW; rw[if_neg a,if_neg b,if_pos (by simpa using c),gm _ _ _ pos]
 have ar:=ar1 he.nd;by_cases h4:e.op=4
 .rw[if_pos h4]
  refine(QI _ l 0 v ox1 v.p0).bnd ?_;rintro n l3 v3 x3 ⟨h3,e3⟩;refine Sp.mono (Vs.sgl (OE v3 h3)) fun r l4 v4 x4 q=>⟨q.1,fun L vL xL β env _=>?_⟩
  rw[q.2 L vL xL β];show tr (!ev L β n)=_;rw[e3 L vL (x4.trans xL),UL,qG,Bool.not_not,one (by omega) (by omega) (by have:=ar (by omega); omega)];unfold sgW; rw[if_pos h4]
 rw[if_neg h4];by_cases h5:e.op=5
 .rw[if_pos h5]
  refine(ZW _ l v ox1).mono fun r l4 v4 x4 q=>⟨⟨by omega,q.1.2⟩,fun L vL xL β env _=>?_⟩
  have:=q.2 L vL xL β;rw[x1] at this;rw[one (by omega) (by omega) (by have:=ar (by omega); omega)];unfold sgW; rw[if_neg h4,if_pos h5];exact AWU this
 rw[if_neg h5];by_cases h6:e.op=6
 .rw[if_pos h6]
  refine(ACK v (H8 0) x1 (LOk.cst v 0) ox1).mono fun r l4 v4 x4 q=>⟨q.1,fun L vL xL β env _=>?_⟩
  rw[q.2 L vL xL β,V7,one (by omega) (by omega) (by have:=ar (by omega); omega)];unfold sgW; rw[if_neg h4,if_neg h5,if_pos h6]
 rw[if_neg h6];by_cases h25:e.op=25
 .rw[if_pos h25]
  refine(ARU _ l (cst 0) v ox1 (H8 0) (LOk.cst v 0)).mono fun r l4 v4 x4 q=>⟨q.1,fun L vL xL β env _=>?_⟩
  rw[q.2 L vL xL β,V7,one (by omega) (by omega) (by have:=ar (by omega); omega)];unfold sgW; rw[if_neg h4,if_neg h5,if_neg h6];unfold ARS;rw[ART,x1,Nat.zero_mod,jG,APH]
 rw[if_neg h25];by_cases h23:e.op=23
 .rw[if_pos h23]
  have hd:∀w∈ws.drop 1,w.length=16∧LOk l w:=fun w q=>hw w (List.mem_of_mem_drop q)
  refine Sp.mono (Vs.sgl (AG3 _ x1 _ (ws.drop 1) l 0 (jP _) v ox1 hd v.p0)) fun r l4 v4 x4 q=>⟨q.1,fun L vL xL β env _=>?_⟩
  rw[q.2 L vL xL β];show tr (ev L β 0||_)=_;rw[UL,qG,hvo];unfold opW;rw[if_neg (by omega),if_pos h23,gm _ _ _ pos,ASI L β _ _ _ (jP _),List.map_drop]
 rw[if_neg h23];by_cases h22:e.op=22
 .rw[if_pos h22]
  have l3:=c22 h22;obtain⟨y1,oy1⟩:=gd 1 (by omega);obtain⟨z1,oz1⟩:=gd 2 (by omega);refine(QI _ l 0 v ox1 v.p0).bnd ?_;rintro c l3 v3 x3 ⟨h3,e3⟩;refine(AC9 (oCh c) (fun L β p q=>bCh (ev L β c) p q) l3 (fun l' f g v' x' hf hg=>UX bCh v' (x'.lt h3) hf hg) _ _ l3 v3 (Xt.rfl' _) (by omega) (oy1.go x3) (oz1.go x3)).mono fun r l4 v4 x4 q=>⟨⟨by omega,q.1.2⟩,fun L vL xL β env _=>?_⟩
  rw[hvo];unfold opW;rw[if_pos h22,gm _ _ _ pos,gm _ _ _ (by omega),gm _ _ _ (by omega)];have hy:=QV L β (ws.getD 1 []);have hz:=QV L β (ws.getD 2 []);rw[y1] at hy;rw[z1] at hz;have ec:ev L β c = !(val L β (ws.getD 0 [])==0):=by rw[e3 L vL (x4.trans xL),UL,qG]
  refine QW (by omega) (by split<;>assumption) fun k hk=>?_
  rw[q.2 L vL xL β k (by omega),ec];by_cases hz0:val L β (ws.getD 0 [])=0
  .rw[if_neg (by simpa using hz0),SG,hz0]; simp [bCh]
  .rw[if_pos hz0,SG]
   have:(val L β (ws.getD 0 [])==0)=false:=by simpa using hz0
   rw[this]; simp [bCh]
 rw[if_neg h22];have l2:=ar2 he.nd (by omega);rw[<-hl] at l2;obtain⟨y1,oy1⟩:=gd 1 (by omega);refine Sp.mono (AYY v x1 y1 ox1 oy1 e.op (by omega)) fun r l4 v4 x4 q=>⟨q.1,fun L vL xL β env _=>?_⟩
 rw[q.2 L vL xL β,hvo];unfold opW;rw[if_neg h22,if_neg h23,if_neg (by rw[List.length_map]; omega),gm _ _ _ pos,gm _ _ _ (by omega)]
def EOk (p:Pr)(e:Ex):Prop:=∀x∈pre e,NOk p x
theorem EOk.self {p:Pr}{e:Ex}(h:EOk p e):NOk p e:=h e (by rw[pre_eq]; simp)
theorem EOk.arg {p:Pr}{e a:Ex}(h:EOk p e)(ha:a∈e.args):EOk p a:=fun x hx=>h x (by rw[pre_eq]; exact List.mem_cons_of_mem _ (YX ha x hx))
def WV (p:Pr)(lvs:List Int)(e:Ex)(l:Dg):Prop:=Sp l (RV p lvs e) fun r l'=>(r.length=16∧LOk l' r)∧Pw l' fun L=>∀β env,Agr p lvs β env->val L β r=AQV env e
theorem AH6 {p:Pr}{lvs:List Int}:∀(es:List Ex) (l:Dg),VD l->(∀e∈es,∀l',VD l'->WV p lvs e l')->Sp l (SC p lvs es) fun ws l'=>(ws.length=es.length∧∀w∈ws,w.length=16∧LOk l' w)∧Pw l' fun L=>∀β env,Agr p lvs β env->ws.map (val L β)=AFA env es
 | [],l,v,_=>by
   rw[AAC];exact Sp.ret v ⟨⟨rfl,fun _ h=>by cases h⟩,fun L _ _ β env _=>by simp [AFA]⟩
 | e::es,l,v,h=>by
   rw[XE];refine(h e (by simp) l v).bnd ?_;rintro w l1 v1 x1 ⟨⟨h1,h1'⟩,e1⟩;refine(AH6 es l1 v1 fun a ha=>h a (by simp [ha])).bnd ?_;rintro ws l2 v2 x2 ⟨⟨h2,h2'⟩,e2⟩;refine Sp.ret v2 ⟨⟨by simp [h2],fun a ha=>?_⟩,fun L vL xL β env hA=>?_⟩
   .rcases List.mem_cons.1 ha with rfl|ha
    .exact⟨h1,h1'.go x2⟩
    .exact h2' a ha
   .rw[jF,e2 L vL xL β env hA,e1 L vL (x2.trans xL) β env hA]
    simp [AFA]
theorem TY {p:Pr}{lvs:List Int}(hp:POk p lvs)(e:Ex):EOk p e->∀l:Dg,VD l->WV p lvs e l:=by
 induction e using Ex.induct with|h e ih=>?_
 intro he l v;unfold WV;rw[AGI];refine(AH6 e.args l v fun a ha l' v'=>ih a ha (he.arg ha) l' v').bnd ?_;rintro ws l1 v1 x1 ⟨⟨h1,h1'⟩,e1⟩;refine(AYX hp he.self v1 h1 h1').mono fun r l2 v2 x2 q=>⟨q.1,fun L vL xL β env hA=>?_⟩
 rw[q.2 L vL xL β env hA,e1 L vL (x2.trans xL) β env hA,AUZ]
def AGP (p:Pr)(lvs:List Int)(e:Ex):M Nat:=(RV p lvs e).bnd fun w=>trL w 0
theorem AM7 {p:Pr}{lvs:List Int}(hp:POk p lvs){e:Ex}(he:EOk p e){l:Dg}(v:VD l):Sp l (AGP p lvs e) fun r l'=>r<l'.length∧Pw l' fun L=>∀β env,Agr p lvs β env->ev L β r = !(AQV env e==0):=by
 refine(TY hp e he l v).bnd ?_;rintro w l1 v1 x1 ⟨⟨h1,h1'⟩,e1⟩;refine(QI w l1 0 v1 h1' v1.p0).mono fun r l2 v2 x2 q=>⟨q.1,fun L vL xL β env hA=>?_⟩
 rw[q.2 L vL xL β,e1 L vL (x2.trans xL) β env hA,UL,qG]
end Go.Proofs.YtgnoolgeijmlaaaGreatDoor.Bl
