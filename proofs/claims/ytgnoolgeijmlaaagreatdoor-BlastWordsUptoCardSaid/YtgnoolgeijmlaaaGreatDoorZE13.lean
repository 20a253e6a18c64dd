/- Part 13 of the proof (Go); no condition. -/
import Derived.Test.YtgnoolgeijmlaaaGreatDoorZE12
set_option linter.unusedVariables false
set_option linter.unusedSimpArgs false
set_option maxRecDepth 8000
namespace Go.Proofs.YtgnoolgeijmlaaaGreatDoor.Bl
open Sm Bins Cov Xe Wd Go.Proofs.YtgnoolgeijmlaaaGreatDoor.Bd Go.RowKit
open Bool renaming not_false→jC
open List renaming replicate→jJ,getElem?_eq_getElem→jX,drop_eq_nil_of_le→zF,map_cons→jF,map_nil→jE,append_nil→jD,length_map→jR,getElem_mem→zC,getElem?_set_ne→jS,getD_eq_getElem?_getD→zM,getElem?_cons_succ→jU,getElem?_cons_zero→jT
open Nat renaming le_of_ble_eq_true→jH,reduceEqDiff→jA,zero_add→jG,le_refl→jP,add_zero→jL,reduceAdd→jM
open Option renaming getD_some→jB,getD_none→jO
def zW:Wrd:=jJ 16 0
theorem ud109:Tryz.prog.underlying 109=some (.slice 74):=by kernel_rfl
theorem A5K:OJ Tryz.prog 74=some 128:=by kernel_rfl
theorem A1S (h:Hp)(n:Nat)(hn:n<=1048576):IX Tryz.prog true h 109 (.int .i64 (n:Int)) (.int .i64 (n:Int))=some (.own h.length 0 n,h++[.live 16 ((jJ n zW).map cW)]):=by
 have hz:N9 Tryz.prog 74=some (cW zW):=by kernel_rfl
 have hr:room n 128:=OX (by omega) (by omega);unfold IX;simp only[ud109,sz74,A5K,hz,Int.toNat_natCast];rw[if_pos ⟨by omega,Int.le_refl _,hr,by kernel_rfl⟩];simp
theorem isR.st {H:Hp}{b:Nat}{ws:List Wrd}(h:isR H b ws){j:Nat}(hj:j<ws.length)(hw:ws[j].length=16){w:Wrd}(hw':w.length=16):FO Tryz.prog H 74 (.ptr b j 0) (wA w)=some (H.set b (.live 16 ((ws.set j w).map cW))):=by
 have hr:(ws.map cW)[j]?=some (cW ws[j]):=by rw[List.getElem?_map,jX hj]; rfl
 rw[show wA w=.agg (cW w) from rfl,G7 (cs:=cW w) (TC (AHR w)) (by rw[NG,hw']; exact sz74) h hr (by rw[NG,NG]; omega)];unfold splice;rw[NG,hw',List.take_zero,zF (by rw[NG]; omega),List.map_set];simp
theorem AI3 (G:Nat->AV){bb:Nat}{rest:List AV}{H:Hp}{l:Dg}(s:PS bb rest l H){x y:Wrd}{c tb cb:Nat}(hx:x.length=16)(hy:y.length=16)(ox:LOk l x)(oy:LOk l y)(oc:c<l.length)(nt:tb≠bb)(nc:cb≠bb)(ht:H[tb]?=some (.live 1 [[.ptr bb 0 0]]))(hc:H[cb]?=some (.live 1 [[iA c]])) :
  Ct G bb rest 82 [wA x,wA y,.fn (.func 83) [] [.ptr tb 0 0,.ptr cb 0 0]] H l (pr2 (oCh c) x y) wA:=by
 refine UD G s x y hx hy ox oy _ (oCh c) (fun l' f g r l'' v x' hf hg e=>apX v (x'.lt oc) hf hg e) fun l' H' f g s' x' k' hf hg base Bad hk hb=>?_
 have ht':=k'.keep _ _ ht nt;have hc':=k'.keep _ _ hc nc;show ACalls _ 83 [iA f,iA g,.ptr tb 0 0,.ptr cb 0 0] H' _;refine acN Tryz.func83 rfl ?_;show awp _ _ _ _ _ (EK _ [.tmp 6] _);have l1:DF Tryz.prog H' 68 (.ptr tb 0 0)=some (.ptr bb 0 0):=by rw[DJ AXG ht' rfl]; rfl
 have l2:DF Tryz.prog H' 3 (.ptr cb 0 0)=some (iA c):=by rw[DJ ag3 hc' rfl]; rfl
 simp -implicitDefEqProofs only[vQ,BD,↓reduceIte,jA,enP,l1,l2];refine(ATV G s' c f g (x'.lt oc) hf hg).use (k:=fun r=>ret r) (TOT:=oCh c f g l') (J4 _ _) hb hk ?_;intro a l1 H1 ea hS s1 k1;simp -implicitDefEqProofs only[vQ,BD,↓reduceIte];exact⟨a,l1,ea,rfl,s1,k1⟩
theorem A3G (h:Hp)(b:Nat):MG h (.ptr b 0 0)=some (.ptr h.length 0 0,h++[.live 1 [[.ptr b 0 0]]]):=rfl
section
variable (G:Nat->AV) {bb:Nat} {rest:List AV} {p:Pr} {lvs:List Int} {lm:SM} {mb:Nat}
theorem al3 (h:Hp):J6 Tryz.prog h 3=some (.ptr h.length 0 0,h++[.live 1 [[.int .i64 0]]]):=JU (row:=[.int .i64 0]) (by kernel_rfl)
set_option maxHeartbeats 8000000 in
theorem word_prog (hP:Pk p lvs lm mb rest)(hmbb:mb≠bb)(e:Ex):EOk p e->(pre e).length<=1048576->∀ {H:Hp} {l:Dg},PS bb rest l H->H[mb]?=some (.map (nmR p.vars 0))->Ct G bb rest 41 [.ptr bb 0 0,.agg (EF e)] H l (RV p lvs e) wA:=by
 induction e using Ex.induct with|h e ih=>?_
 intro he hlen H l s hmb base Bad hk hb;have hwv:=TY (p:=p) (lvs:=lvs) hP.ok e he l s.v;generalize hT:RV p lvs e l=TOT at hb;have hWS:∀r l',TOT=some (r,l')->r.length=16:=fun r l' q=>(hwv r l' (by rw[hT]; exact q)).2.2.2.1.1
 rw[AGI] at hT;have hpl:=congrArg List.length (pre_eq e);rw[List.length_cons] at hpl;have hal:e.args.length<=1048576:=by have:=VG e.args; omega
 refine acN Tryz.func41 rfl ?_;show awp _ _ _ _ _ (EK _ [.cell 4 74] _);have sl:=s.lt;have ml:=CB hmb;simp -implicitDefEqProofs only[vQ,BD,↓reduceIte,jA,enP,ND,A3G,bxE,TT];generalize hX:H++[ABlk.live 1 [[.ptr bb 0 0]]]++[ABlk.live 4 [EF e]]++[ABlk.live 16 [cW (jJ 16 0)]]=X;have hxe:ext H X:=by rw[<-hX]; exact(((ext.rfl' H).app _).app _).app _
 have q2:X[H.length]?=some (.live 1 [[.ptr bb 0 0]]):=by rw[<-hX]; exact BO (BO (CU _ _))
 have q3:X[H.length+1]?=some (.live 4 [EF e]):=by rw[<-hX]; exact BO (HY (by simp))
 have q4:isW X (H.length+2) zW:=by rw[<-hX]; exact HY (by simp)
 have sX:=s.ext hxe;have kX:=Kb.ofExt (bb:=bb) hxe;have e1:(H++[ABlk.live 1 [[.ptr bb 0 0]]]).length=H.length+1:=by simp
 have e2:(H++[ABlk.live 1 [[.ptr bb 0 0]]]++[ABlk.live 4 [EF e]]).length=H.length+2:=by simp
 have e3:X.length=H.length+3:=by rw[<-hX]; simp
 rw[e1,e2];clear hX hxe;have l3:∀ {H':Hp},H'[H.length+1]?=some (.live 4 [EF e])->DF Tryz.prog H' 23 (.ptr (H.length+1) 0 3)=some (.sl e.m 4 (e.args.map EF)):=fun q=>by rw[DJ VX q (row:=EF e) rfl,VQ]
 have q3':∀x:ABlk,(X++[x])[H.length+1]?=some (.live 4 [EF e]):=fun x=>BO q3
 simp -implicitDefEqProofs only[vQ,BD,JV,↓reduceIte,jA,enP,WT,ND,l3 q3,jR,A1S X e.args.length hal,e3];have qa:isR (X++[ABlk.live 16 ((jJ e.args.length zW).map cW)]) (H.length+3) (jJ e.args.length zW):=HY e3;have q2:(X++[ABlk.live 16 ((jJ e.args.length zW).map cW)])[H.length]?=some (.live 1 [[.ptr bb 0 0]]):=BO q2;have q3:(X++[ABlk.live 16 ((jJ e.args.length zW).map cW)])[H.length+1]?=some (.live 4 [EF e]):=BO q3;have q4:isW (X++[ABlk.live 16 ((jJ e.args.length zW).map cW)]) (H.length+2) zW:=BO q4;have sX:=sX.app (ABlk.live 16 ((jJ e.args.length zW).map cW));have kX:=kX.app (ABlk.live 16 ((jJ e.args.length zW).map cW));have hl4:H.length+3<(X++[ABlk.live 16 ((jJ e.args.length zW).map cW)]).length:=by simp; omega
 generalize X++[ABlk.live 16 ((jJ e.args.length zW).map cW)]=X at qa q2 q3 q4 sX kX hl4|-;clear q3' e3;simp -implicitDefEqProofs only[vQ,BD,↓reduceIte,enP,WT,l3 q3,jR]
 let K:List Wrd->M Wrd:=fun ws=>wOp p lvs e.op e.n e.name ws
 refine GI 0 (fun F H'=>∃ws l',ws.length=e.args.length∧(∀w∈ws,w.length=16∧LOk l' w)∧K ws l'=TOT∧PS bb rest l' H'∧Kb bb H H'∧H'[H.length]?=some (.live 1 [[.ptr bb 0 0]])∧H'[H.length+1]?=some (.live 4 [EF e])∧isW H' (H.length+2) zW∧isR H' (H.length+3) ws∧H.length+3<H'.length ∧
  F 2=.ptr H.length 0 0∧F 3=.ptr (H.length+1) 0 0∧F 4=.ptr (H.length+2) 0 0∧F 5=.own (H.length+3) 0 e.args.length) (fun _ _=>False) ?_ ?_ (fun _ _ q=>q.elim)
 .refine D7 (fun n F H'=>∃j ws l',n+j=e.args.length∧ws.length=j∧(∀w∈ws,w.length=16∧LOk l' w)∧((SC p lvs (e.args.drop j)).bnd fun r=>K (ws++r)) l'=TOT∧PS bb rest l' H'∧Kb bb H H'∧H'[H.length]?=some (.live 1 [[.ptr bb 0 0]])∧H'[H.length+1]?=some (.live 4 [EF e])∧isW H' (H.length+2) zW∧isR H' (H.length+3) (ws++jJ (e.args.length-j) zW)∧H.length+3<H'.length ∧
   F 2=.ptr H.length 0 0∧F 3=.ptr (H.length+1) 0 0∧F 4=.ptr (H.length+2) 0 0∧F 5=.own (H.length+3) 0 e.args.length∧F 14=.sl e.m 4 (e.args.map EF)∧F 15=.int .i64 (e.args.length:Nat)∧F 16=.int .i64 (j:Nat)) e.args.length
   ⟨0,[],l,by omega,rfl,fun _ q=>(by cases q),hT,sX,kX,q2,q3,q4,qa,hl4,by simp -implicitDefEqProofs only[AA,↓reduceIte,jA],by simp -implicitDefEqProofs only[AA,↓reduceIte,jA],by simp -implicitDefEqProofs only[AA,↓reduceIte,jA],by simp -implicitDefEqProofs only[AA,↓reduceIte,jA],by simp -implicitDefEqProofs only[AA,↓reduceIte,jA],by simp -implicitDefEqProofs only[AA,↓reduceIte,jA],by simp -implicitDefEqProofs only[AA,↓reduceIte]; rfl⟩ ?_
  clear q2 q3 q4 qa sX kX hl4;rintro n F H0 ⟨j,ws,l',hn,hwl,hw,hS,s',k',q2,q3,q4,qa,hl4,f2,f3,f4,f5,f14,f15,f16⟩;have ec:decide (((j:Nat):Int)<(e.args.length:Nat))=decide (j<e.args.length):=by rw[decide_eq_decide]; omega
  simp -implicitDefEqProofs only[vQ,BD,↓reduceIte,enP,f15,f16,ec];refine C9 (fun hc=>?_) (fun hc=>?_)
  .have hj:j<e.args.length:=by simpa using hc
   have hmem:e.args[j]∈e.args:=zC hj;rw[List.drop_eq_getElem_cons hj,XE,G9] at hS;simp -implicitDefEqProofs only[vQ,BD,↓reduceIte,jA,enP,AAO,jO,f14,f16,EZ hj,GM YB RX IZ hj,AT6,AQ4 _ _ _ (show List.length [AV.int .i64 0,AV.int .i64 0,AV.str ⟨#[]⟩,AV.sl .nil 0 []]=4 from rfl)];have qe:(H0++[ABlk.live 4 [EF e.args[j]]])[H0.length]?=some (.live 4 [EF e.args[j]]):=CU _ _;have q2:(H0++[ABlk.live 4 [EF e.args[j]]])[H.length]?=some (.live 1 [[.ptr bb 0 0]]):=BO q2;have q3:(H0++[ABlk.live 4 [EF e.args[j]]])[H.length+1]?=some (.live 4 [EF e]):=BO q3;have q4:isW (H0++[ABlk.live 4 [EF e.args[j]]]) (H.length+2) zW:=BO q4;have qa:isR (H0++[ABlk.live 4 [EF e.args[j]]]) (H.length+3) (ws++jJ (e.args.length-j) zW):=BO qa;have s':=s'.app (ABlk.live 4 [EF e.args[j]]);have k':=k'.app (ABlk.live 4 [EF e.args[j]]);have hl4:H.length+3<(H0++[ABlk.live 4 [EF e.args[j]]]).length:=by simp; omega
   have l2:DF Tryz.prog (H0++[ABlk.live 4 [EF e.args[j]]]) 68 (.ptr H.length 0 0)=some (.ptr bb 0 0):=by rw[DJ AXG q2 rfl]; rfl
   simp -implicitDefEqProofs only[vQ,BD,↓reduceIte,jA,enP,f2,f5,l2,JH qe];generalize H0++[ABlk.live 4 [EF e.args[j]]]=H1 at qe q2 q3 q4 qa s' k' hl4 l2|-;have hmb':=k'.keep _ _ hmb hmbb;refine(ih e.args[j] hmem (he.arg hmem) (by have:=QA hmem; omega) s' hmb').use hS hb (hk.trans k') ?_;intro w l1 H2 ew hS s2 k2;obtain⟨v1,x1,_,⟨w16,ow⟩,_⟩:=TY (p:=p) (lvs:=lvs) hP.ok _ (he.arg hmem) l' s'.v w l1 ew;rw[G9] at hS
   have hS:((SC p lvs (e.args.drop (j+1))).bnd fun r=>K ((ws++[w])++r)) l1=TOT:=by
    rw[<-hS];refine congrFun (congrArg (M.bnd _) (funext fun r=>?_)) l1;show K ((ws++[w])++r)=K (ws++(w::r));rw[List.append_assoc]; rfl
   have q2:=k2.keep _ _ q2 (by omega);have q3:=k2.keep _ _ q3 (by omega);have q4:=k2.keep _ _ q4 (by omega);have qa:=k2.row qa (by omega);have kl:=k2.len;have hrow:ws++jJ (e.args.length-j) zW=ws++zW::jJ (e.args.length-(j+1)) zW:=by rw[show e.args.length-j=(e.args.length-(j+1))+1 by omega,List.replicate_succ]
   rw[hrow] at qa
   have hz:(ws++zW::jJ (e.args.length-(j+1)) zW)[j]'(by simp [hwl])=zW:=by
    rw[List.getElem_append_right (by omega)]; simp [hwl]
   have hst:=qa.st (j:=j) (by simp [hwl]) (by rw[hz]; rfl) w16
   have hset:(ws++zW::jJ (e.args.length-(j+1)) zW).set j w=(ws++[w])++jJ (e.args.length-(j+1)) zW:=by
    subst hwl;rw[List.set_append_right _ _ (jP _),Nat.sub_self]; simp
   rw[hset] at hst;have i0:=qa.ix (o:=0) (n:=e.args.length) (kk:=.i64) hj;rw[jG] at i0;simp -implicitDefEqProofs only[vQ,BD,↓reduceIte,jA,enP,U1,jO,i0,hst,f16,wrap_succ (show j<9223372036854775807 by omega)];have ne:∀ {c:Nat} {y B':ABlk},H2[c]?=some y->c≠H.length+3->(H2.set (H.length+3) B')[c]?=some y:=fun q hne=>by rw[jS (Ne.symm hne)]; exact q
   refine⟨n-1,by omega,j+1,ws++[w],l1,by omega,by simp [hwl],fun a ha=>?_,hS,s2.set (by omega) _,(k'.trans k2).setN (by omega) _,ne q2 (by omega),ne q3 (by omega),ne q4 (by omega),DX qa,by rw[List.length_set]; omega,by trivial,by trivial,by trivial,by trivial,by trivial,by trivial,by trivial⟩;rcases List.mem_append.1 ha with q|q
   .exact⟨(hw a q).1,(hw a q).2.go x1⟩
   .rw[List.mem_singleton] at q; rw[q]; exact⟨w16,ow⟩
  .have hj:¬j<e.args.length:=by simpa using hc
   have hj:j=e.args.length:=by omega
   subst hj;rw[zF (jP _),AAC] at hS;have hS:K (ws++[]) l'=TOT:=hS;rw[jD] at hS;rw[Nat.sub_self,List.replicate_zero,jD] at qa;simp -implicitDefEqProofs only[vQ,↓reduceIte,jA];exact⟨ws,l',hwl,hw,hS,s',k',q2,q3,q4,qa,hl4,f2,f3,f4,f5⟩
 .clear q2 q3 q4 qa sX kX hl4
  rintro F H0 ⟨ws,l0,hwl,hw,hS,s',k',q2,q3,q4,qa,hl4,f2,f3,f4,f5⟩;have ld0:∀ {H':Hp},H'[H.length+1]?=some (.live 4 [EF e])->DF Tryz.prog H' 3 (.ptr (H.length+1) 0 0)=some (.int .i64 e.op):=fun q=>by rw[DJ ag3 q (row:=EF e) rfl,J9]
  have ld1:∀ {H':Hp},H'[H.length+1]?=some (.live 4 [EF e])->DF Tryz.prog H' 3 (.ptr (H.length+1) 0 1)=some (.int .i64 e.n):=fun q=>by rw[DJ ag3 q (row:=EF e) rfl,ZQ]
  have ld2:∀ {H':Hp},H'[H.length+1]?=some (.live 4 [EF e])->DF Tryz.prog H' 9 (.ptr (H.length+1) 0 2)=some (.str e.name):=fun q=>by rw[DJ ag9 q (row:=EF e) rfl,PH]
  have lb:∀ {H':Hp},H'[H.length]?=some (.live 1 [[.ptr bb 0 0]])->DF Tryz.prog H' 68 (.ptr H.length 0 0)=some (.ptr bb 0 0):=fun q=>by rw[DJ AXG q rfl]; rfl
  obtain⟨o1,_,oo⟩:=ADB he.self.nd;have hr:=ADA he.self.nd;obtain⟨n3,n24⟩:=he.self.na;have hmb':=k'.keep _ _ hmb hmbb;have gi:∀k,k<ws.length->ws[k]?=some (ws.getD k []):=fun k hk=>by rw[zM,jX hk]; rfl
  have gd:∀k,k<ws.length->(ws.getD k []).length=16∧LOk l0 (ws.getD k []):=fun k hk=>by
   rw[zM,jX hk]; exact hw _ (zC hk)
  have fin:∀(F':Fr) (H1:Hp) (r:Wrd) (l1:Dg),F' 4=.ptr (H.length+2) 0 0->ret r l1=TOT->PS bb rest l1 H1->Kb bb H H1->isW H1 (H.length+2) zW ->
    ∃H2,FO Tryz.prog H1 74 (.ptr (H.length+2) 0 0) (wA r)=some H2∧EK Tryz.prog [.cell 4 74] (fun v H'=>∃a l',TOT=some (a,l')∧v=wA a∧PS bb rest l' H'∧Kb bb H H') .ret F' H2:=by
   intro F' H1 r l1 hF hS s1 k1 q4;have hr:=hWS r l1 hS.symm;obtain⟨f1,f2,f3,f4⟩:=SY hr s1 k1 (c:=H.length+2) (by omega) (by omega) (by rfl) q4;refine⟨_,f1,?_⟩;rw[I8 _ _ _ _ _ _ _ _ _ hF,IJ f2 hr];exact⟨_,rfl,r,l1,hS.symm,rfl,f3,f4⟩
  simp -implicitDefEqProofs only[vQ,BD,↓reduceIte,enP,F7,f3,ld0 q3];by_cases h1:e.op=1
  .have c1:(e.op==1)=true:=by simpa using h1
   obtain⟨z0,z1⟩:=o1 h1;obtain⟨z,hz⟩:=Int.eq_ofNat_of_zero_le z0;have hS:ret (cst z) l0=TOT:=by rw[<-hS]; show _=wOp p lvs e.op e.n e.name ws l0; unfold wOp; rw[if_pos h1,hz]; rfl
   have ld1:=ld1 q3;rw[hz] at ld1;simp -implicitDefEqProofs only[vQ,BD,↓reduceIte,jA,enP,AAS,c1,f3,f4,ld1];refine(pcX (OI G z (by omega) H0)).use ?_;obtain⟨H2,st,fe⟩:=fin _ H0 (cst z) l0 (by first|exact f4|(simp -implicitDefEqProofs only[f4])) hS s' k' q4;simp -implicitDefEqProofs only[vQ,BD,↓reduceIte,jA,enP,jO,f4,st];exact fe
  have c1:(e.op==1)=false:=by simpa using h1
  by_cases h2:e.op=2
  .have c2:(e.op==2)=true:=by simpa using h2
   obtain⟨i,hi⟩:=he.self.vr h2;have hil:=AHA hi
   have hS:AAF p.vars[i] (lvs.getD i 0) l0=TOT:=by
    rw[<-hS]; show _=wOp p lvs e.op e.n e.name ws l0;unfold wOp; rw[if_neg h1,if_pos h2,hi]; simp only[jX hil]
   simp -implicitDefEqProofs only[vQ,BD,↓reduceIte,jA,enP,LM,c1,c2,f2,f3,lb q2,ld2 q3];refine(AER G s' hP hmb' e.name i hi hil).use (k:=fun r=>ret r) (by rw[J4]; exact hS) hb (hk.trans k') ?_;intro r l1 H1 er hS s1 k1;have q4:=k1.keep _ _ q4 (by omega);obtain⟨H2,st,fe⟩:=fin _ H1 r l1 (by first|exact f4|(simp -implicitDefEqProofs only[f4])) hS s1 (k'.trans k1) q4;simp -implicitDefEqProofs only[vQ,BD,↓reduceIte,jA,enP,jO,f4,st];exact fe
  have c2:(e.op==2)=false:=by simpa using h2
  have pos:0<ws.length:=by
   obtain⟨c22,c23,cx⟩:=oo h1 h2 n3 n24;by_cases q:e.op=22
   .have:=c22 q; omega
   by_cases q':e.op=23
   .have:=c23 q'; omega
   .have:=cx q q'; omega
  obtain⟨w0,o0⟩:=gd 0 pos;have ix0:∀ {H':Hp},isR H' (H.length+3) ws->J8 16 H' (.own (H.length+3) 0 e.args.length) (.int .i64 0)=some (.ptr (H.length+3) 0 0):=fun q=>q.ix (o:=0) (i:=0) (kk:=.i64) (by omega)
  have lw0:∀ {H':Hp},isR H' (H.length+3) ws->DF Tryz.prog H' 74 (.ptr (H.length+3) 0 0)=some (wA (ws.getD 0 [])):=fun q=>q.ld (gi 0 pos) w0
  have hS:wOp p lvs e.op e.n e.name ws l0=TOT:=hS;unfold wOp at hS;rw[if_neg h1,if_neg h2] at hS;by_cases h4:e.op=4
  .have c4:(e.op==4)=true:=by simpa using h4
   rw[if_pos h4] at hS;simp -implicitDefEqProofs only[vQ,BD,↓reduceIte,jA,enP,c1,c2,c4];refine EW (.ones [1,2,3,4] (.alt 0 (.alt 5 (.alt 6 (.ones [7,8] .done) .non) .non) (.alt 5 (.ones [0] (.alt 6 (.ones [7,8] .done) .non)) .non))) (by kernel_rfl) ?_;simp only[DN,IE,jU,jT];simp -implicitDefEqProofs only[vQ,↓reduceIte,jA,jM,enP,U1,jO,f2,f4,f5,lb q2,ix0 qa,lw0 qa];refine⟨⟨?_,trivial⟩,?_,trivial⟩
   .refine(OD G s' _ w0 o0).use hS hb (hk.trans k') ?_
    intro t l1 H1 et hS s1 k1;obtain⟨x1,p1⟩:=AFC s'.v o0 s'.v.p0 et;have k1':=k'.trans k1;have q2:=k1.keep _ _ q2 (by omega);have q4:=k1.keep _ _ q4 (by omega);simp -implicitDefEqProofs only[vQ,↓reduceIte,jA,f2,lb q2];refine⟨(LW G s1 t p1).use hS hb (hk.trans k1') ?_,trivial⟩;intro r l2 H2 er hS s2 k2;have q4:=k2.keep _ _ q4 (by omega);simp -implicitDefEqProofs only[vQ,↓reduceIte,jA];refine⟨_,pcX (J7 G r H2),?_⟩;obtain⟨H3,st,fe⟩:=fin _ H2 (sgl r) l2 (by first|exact f4|(simp -implicitDefEqProofs only[f4])) hS s2 (k1'.trans k2) q4;simp -implicitDefEqProofs only[vQ,f4,st];exact fe
   .refine(OD G s' _ w0 o0).use hS hb (hk.trans k') ?_
    intro t l1 H1 et hS s1 k1;obtain⟨x1,p1⟩:=AFC s'.v o0 s'.v.p0 et;have k1':=k'.trans k1;have q2:=k1.keep _ _ q2 (by omega);have q4:=k1.keep _ _ q4 (by omega);simp -implicitDefEqProofs only[vQ,↓reduceIte,jA,f2,lb q2];refine⟨(LW G s1 t p1).use hS hb (hk.trans k1') ?_,trivial⟩;intro r l2 H2 er hS s2 k2;have q4:=k2.keep _ _ q4 (by omega);simp -implicitDefEqProofs only[vQ,↓reduceIte,jA];refine⟨_,pcX (J7 G r H2),?_⟩;obtain⟨H3,st,fe⟩:=fin _ H2 (sgl r) l2 (by first|exact f4|(simp -implicitDefEqProofs only[f4])) hS s2 (k1'.trans k2) q4;simp -implicitDefEqProofs only[vQ,f4,st];exact fe
  have c4:(e.op==4)=false:=by simpa using h4
  rw[if_neg h4] at hS;by_cases h5:e.op=5
  .have c5:(e.op==5)=true:=by simpa using h5
   rw[if_pos h5] at hS;simp -implicitDefEqProofs only[vQ,BD,↓reduceIte,jA,enP,c1,c2,c4,c5];refine EW (.ones [0,1,2,3] (.alt 4 (.ones [5] .done) .non)) (by kernel_rfl) ?_;simp only[DN,IE,jU,jT];simp -implicitDefEqProofs only[vQ,↓reduceIte,jA,jM,enP,U1,jO,f2,f4,f5,lb q2,ix0 qa,lw0 qa];refine⟨(XZ G s' _ w0 o0).use (k:=fun r=>ret r) (by rw[J4]; exact hS) hb (hk.trans k') ?_,trivial⟩;intro r l1 H1 er hS s1 k1;have q4:=k1.keep _ _ q4 (by omega);obtain⟨H2,st,fe⟩:=fin _ H1 r l1 (by first|exact f4|(simp -implicitDefEqProofs only[f4])) hS s1 (k'.trans k1) q4;simp -implicitDefEqProofs only[vQ,↓reduceIte,jA,f4,st];exact fe
  have c5:(e.op==5)=false:=by simpa using h5
  rw[if_neg h5] at hS;by_cases h6:e.op=6
  .have c6:(e.op==6)=true:=by simpa using h6
   rw[if_pos h6] at hS;simp -implicitDefEqProofs only[vQ,BD,↓reduceIte,jA,enP,c1,c2,c4,c5,c6];refine EW (.ones [1,0,2,3,4] (.alt 5 (.ones [6] .done) .non)) (by kernel_rfl) ?_;simp only[DN,IE,jU,jT];simp -implicitDefEqProofs only[vQ,↓reduceIte,jA,jM,enP,U1,jO,f2,f4,f5,lb q2,ix0 qa,lw0 qa];refine⟨_,pcX (OI G 0 (by omega) H0),?_⟩
   try simp -implicitDefEqProofs only[vQ,f2,f4,f5,lb q2,ix0 qa,lw0 qa]
   refine⟨(AJU G s' _ _ (H8 0) w0 (LOk.cst s'.v 0) o0).use (k:=fun r=>ret r) (by rw[J4]; exact hS) hb (hk.trans k') ?_,trivial⟩;intro r l1 H1 er hS s1 k1;have q4:=k1.keep _ _ q4 (by omega);obtain⟨H2,st,fe⟩:=fin _ H1 r l1 (by first|exact f4|(simp -implicitDefEqProofs only[f4])) hS s1 (k'.trans k1) q4;simp -implicitDefEqProofs only[vQ,↓reduceIte,jA,f4,st];exact fe
  have c6:(e.op==6)=false:=by simpa using h6
  rw[if_neg h6] at hS;by_cases h25:e.op=25
  .have c25:(e.op==25)=true:=by simpa using h25
   rw[if_pos h25] at hS;simp -implicitDefEqProofs only[vQ,BD,↓reduceIte,jA,enP,c1,c2,c4,c5,c6,c25];refine EW (.ones [0,1,2,3] (.alt 4 (.ones [5] .done) .non)) (by kernel_rfl) ?_;simp only[DN,IE,jU,jT];simp -implicitDefEqProofs only[vQ,↓reduceIte,jA,jM,enP,U1,jO,f2,f4,f5,lb q2,ix0 qa,lw0 qa];refine⟨(APG G s' _ w0 o0).use (k:=fun r=>ret r) (by rw[J4]; exact hS) hb (hk.trans k') ?_,trivial⟩;intro r l1 H1 er hS s1 k1;have q4:=k1.keep _ _ q4 (by omega);obtain⟨H2,st,fe⟩:=fin _ H1 r l1 (by first|exact f4|(simp -implicitDefEqProofs only[f4])) hS s1 (k'.trans k1) q4;simp -implicitDefEqProofs only[vQ,↓reduceIte,jA,f4,st];exact fe
  have c25:(e.op==25)=false:=by simpa using h25
  rw[if_neg h25] at hS;by_cases h23:e.op=23
  .have c23:(e.op==23)=true:=by simpa using h23
   rw[if_pos h23] at hS
   have hsl:MK Tryz.prog H0 109 (.own (H.length+3) 0 e.args.length) (some (.int .i64 1)) none none=some (.own (H.length+3) 1 (ws.length-1)):=by
    rw[hwl];unfold MK;simp only[ud109,qa,KL,sz74];rw[if_pos (show(0:Int)<=1 by decide)];simp only[show Int.toNat 1=1 from rfl];rw[if_pos ⟨trivial,by omega,jP _⟩,jG]
   simp -implicitDefEqProofs only[vQ,BD,↓reduceIte,jA,enP,c1,c2,c4,c5,c6,c25,c23];refine EW (.ones [0,1,2,3,4,5] (.alt 6 (.ones [7,8] .done) .non)) (by kernel_rfl) ?_;simp only[DN,IE,jU,jT];simp -implicitDefEqProofs only[vQ,Option.map_some,Option.map_none,VZ,OV,↓reduceIte,jA,jM,enP,U1,jO,f2,f4,f5,lb q2,ix0 qa,lw0 qa,hsl];refine⟨(AJD G s' _ w0 o0 (H.length+3) (by omega) ws qa 1 (fun w q=>hw w (List.mem_of_mem_drop q)) (by omega)).use hS hb (hk.trans k') ?_,trivial⟩;intro r l2 H2 er hS s2 k2;have q4:=k2.keep _ _ q4 (by omega);simp -implicitDefEqProofs only[vQ,↓reduceIte,jA];refine⟨_,pcX (J7 G r H2),?_⟩;obtain⟨H3,st,fe⟩:=fin _ H2 (sgl r) l2 (by first|exact f4|(simp -implicitDefEqProofs only[f4])) hS s2 (k'.trans k2) q4;simp -implicitDefEqProofs only[vQ,f4,st];exact fe
  have c23:(e.op==23)=false:=by simpa using h23
  rw[if_neg h23] at hS;by_cases h22:e.op=22
  .have c22:(e.op==22)=true:=by simpa using h22
   rw[if_pos h22] at hS;have l3:=(oo h1 h2 n3 n24).1 h22;obtain⟨w1,ow1⟩:=gd 1 (by omega);obtain⟨w2,ow2⟩:=gd 2 (by omega);have ix1:∀ {H':Hp},isR H' (H.length+3) ws->J8 16 H' (.own (H.length+3) 0 e.args.length) (.int .i64 1)=some (.ptr (H.length+3) 1 0):=fun q=>by have:=q.ix (o:=0) (n:=e.args.length) (i:=1) (kk:=.i64) (by omega); rw[jG] at this; exact this
   have ix2:∀ {H':Hp},isR H' (H.length+3) ws->J8 16 H' (.own (H.length+3) 0 e.args.length) (.int .i64 2)=some (.ptr (H.length+3) 2 0):=fun q=>by have:=q.ix (o:=0) (n:=e.args.length) (i:=2) (kk:=.i64) (by omega); rw[jG] at this; exact this
   have lw1:∀ {H':Hp},isR H' (H.length+3) ws->DF Tryz.prog H' 74 (.ptr (H.length+3) 1 0)=some (wA (ws.getD 1 [])):=fun q=>q.ld (gi 1 (by omega)) w1
   have lw2:∀ {H':Hp},isR H' (H.length+3) ws->DF Tryz.prog H' 74 (.ptr (H.length+3) 2 0)=some (wA (ws.getD 2 [])):=fun q=>q.ld (gi 2 (by omega)) w2
   simp -implicitDefEqProofs only[vQ,BD,↓reduceIte,jA,enP,c1,c2,c4,c5,c6,c25,c23,c22];refine EW (.ones [0,1,2,3] (.alt 4 (.ones [5,6] .done) (.alt 5 (.alt 4 (.ones [6] .done) .non) .non))) (by kernel_rfl) ?_;simp only[DN,IE,jU,jT];simp -implicitDefEqProofs only[vQ,AUP,↓reduceIte,jA,jM,enP,U1,jO,f2,f4,f5,lb q2,ix0 qa,lw0 qa,al3];refine⟨?_,⟨?_,trivial⟩,trivial⟩
   .refine(OD G s' _ w0 o0).use hS hb (hk.trans k') ?_
    intro c l1 H1 et hS s1 k1;obtain⟨x1,p1⟩:=AFC s'.v o0 s'.v.p0 et;have k1':=k'.trans k1;have q2:=k1.keep _ _ q2 (by omega);have q4:=k1.keep _ _ q4 (by omega);have qa:=k1.row qa (by omega);have kl:=k1.len
    have st3:FO Tryz.prog (H1++[ABlk.live 1 [[.int .i64 0]]]) 3 (.ptr H1.length 0 0) (iA c)=some (H1++[ABlk.live 1 [[iA c]]]):=by
     rw[G7 (cs:=[iA c]) rfl sz3 (CU _ _) rfl (by simp),OA]; rfl
    simp -implicitDefEqProofs only[vQ,↓reduceIte,al3,st3];have qc:(H1++[ABlk.live 1 [[iA c]]])[H1.length]?=some (.live 1 [[iA c]]):=CU _ _;have q2:(H1++[ABlk.live 1 [[iA c]]])[H.length]?=some (.live 1 [[.ptr bb 0 0]]):=BO q2;have q4:isW (H1++[ABlk.live 1 [[iA c]]]) (H.length+2) zW:=BO q4;have qa:isR (H1++[ABlk.live 1 [[iA c]]]) (H.length+3) ws:=BO qa;have s1:=s1.app (ABlk.live 1 [[iA c]]);have k1':=k1'.app (ABlk.live 1 [[iA c]]);have hcb:H1.length≠bb:=by have:=s1.lt; have:=s'.lt; have:=k'.len; omega
    generalize H1++[ABlk.live 1 [[iA c]]]=H2 at q2 q4 qa qc s1 k1'|-;generalize H1.length=cb at qc hcb|-;refine EW (.ones [0,1,2,3,4,5,6] (.alt 7 (.ones [8] .done) .non)) (by kernel_rfl) ?_;simp only[DN,IE,jU,jT];simp -implicitDefEqProofs only[vQ,ACN,I5,↓reduceIte,jA,jM,enP,U1,jO,f2,f4,f5,ix1 qa,lw1 qa,ix2 qa,lw2 qa];refine⟨(AI3 G s1 (tb:=H.length) (cb:=cb) w1 w2 (ow1.go x1) (ow2.go x1) p1 (by omega) hcb q2 qc).use (k:=fun r=>ret r) (by rw[J4]; exact hS) hb (hk.trans k1') ?_,trivial⟩;intro r l3 H3 er hS s3 k3;have q4:=k3.keep _ _ q4 (by omega);obtain⟨H4,st,fe⟩:=fin _ H3 r l3 (by first|exact f4|(simp -implicitDefEqProofs only[f4])) hS s3 (k1'.trans k3) q4;simp -implicitDefEqProofs only[vQ,↓reduceIte,jA,f4,st];exact fe
   .have qc:(H0++[ABlk.live 1 [[AV.int .i64 0]]])[H0.length]?=some (.live 1 [[.int .i64 0]]):=CU _ _
    have q2:(H0++[ABlk.live 1 [[AV.int .i64 0]]])[H.length]?=some (.live 1 [[.ptr bb 0 0]]):=BO q2;have q4:isW (H0++[ABlk.live 1 [[AV.int .i64 0]]]) (H.length+2) zW:=BO q4;have qa:isR (H0++[ABlk.live 1 [[AV.int .i64 0]]]) (H.length+3) ws:=BO qa;have b0:=s'.lt;have hcb:H0.length≠bb:=by omega
    have ha:=CB qa;have hne:H.length+3<H0.length:=hl4;have s':=s'.app (ABlk.live 1 [[AV.int .i64 0]]);have k':=k'.app (ABlk.live 1 [[AV.int .i64 0]]);refine(OD G s' _ w0 o0).use hS hb (hk.trans k') ?_;intro c l1 H1 et hS s1 k1;obtain⟨x1,p1⟩:=AFC s'.v o0 s'.v.p0 et;have k1':=k'.trans k1;have q2:=k1.keep _ _ q2 (by omega);have q4:=k1.keep _ _ q4 (by omega);have qa:=k1.row qa (by omega);have qc:=k1.keep _ _ qc hcb
    have st3:FO Tryz.prog H1 3 (.ptr H0.length 0 0) (iA c)=some (H1.set H0.length (ABlk.live 1 [[iA c]])):=by
     rw[G7 (cs:=[iA c]) rfl sz3 qc rfl (by simp)]; rfl
    simp -implicitDefEqProofs only[vQ,↓reduceIte,jA,st3];have ne:∀ {d:Nat} {y B':ABlk},H1[d]?=some y->d≠H0.length->(H1.set H0.length B')[d]?=some y:=fun q hne=>by rw[jS (Ne.symm hne)]; exact q
    have q2:(H1.set H0.length (ABlk.live 1 [[iA c]]))[H.length]?=some (.live 1 [[.ptr bb 0 0]]):=ne q2 (by omega);have q4:isW (H1.set H0.length (ABlk.live 1 [[iA c]])) (H.length+2) zW:=ne q4 (by omega);have qa:isR (H1.set H0.length (ABlk.live 1 [[iA c]])) (H.length+3) ws:=ne qa (by omega);have qc:(H1.set H0.length (ABlk.live 1 [[iA c]]))[H0.length]?=some (.live 1 [[iA c]]):=DX qc;have s1:=s1.set hcb (ABlk.live 1 [[iA c]]);have k1':=k1'.setN (c:=H0.length) (by omega) (ABlk.live 1 [[iA c]]);generalize H1.set H0.length (ABlk.live 1 [[iA c]])=H2 at q2 q4 qa qc s1 k1'|-;generalize H0.length=cb at qc hcb|-;refine EW (.ones [0,1,2,3,4,5,6] (.alt 7 (.ones [8] .done) .non)) (by kernel_rfl) ?_;simp only[DN,IE,jU,jT];simp -implicitDefEqProofs only[vQ,ACN,I5,↓reduceIte,jA,jM,enP,U1,jO,f2,f4,f5,ix1 qa,lw1 qa,ix2 qa,lw2 qa];refine⟨(AI3 G s1 (tb:=H.length) (cb:=cb) w1 w2 (ow1.go x1) (ow2.go x1) p1 (by omega) hcb q2 qc).use (k:=fun r=>ret r) (by rw[J4]; exact hS) hb (hk.trans k1') ?_,trivial⟩;intro r l3 H3 er hS s3 k3;have q4:=k3.keep _ _ q4 (by omega);obtain⟨H4,st,fe⟩:=fin _ H3 r l3 (by first|exact f4|(simp -implicitDefEqProofs only[f4])) hS s3 (k1'.trans k3) q4;simp -implicitDefEqProofs only[vQ,↓reduceIte,jA,f4,st];exact fe
  have c22:(e.op==22)=false:=by simpa using h22
  rw[if_neg h22] at hS;have l2:=ar2 he.self.nd (by omega);obtain⟨w1,ow1⟩:=gd 1 (by omega);have ix1:∀ {H':Hp},isR H' (H.length+3) ws->J8 16 H' (.own (H.length+3) 0 e.args.length) (.int .i64 1)=some (.ptr (H.length+3) 1 0):=fun q=>by have:=q.ix (o:=0) (n:=e.args.length) (i:=1) (kk:=.i64) (by omega); rw[jG] at this; exact this
  have lw1:∀ {H':Hp},isR H' (H.length+3) ws->DF Tryz.prog H' 74 (.ptr (H.length+3) 1 0)=some (wA (ws.getD 1 [])):=fun q=>q.ld (gi 1 (by omega)) w1
  simp -implicitDefEqProofs only[vQ,BD,↓reduceIte,jA,enP,c1,c2,c4,c5,c6,c25,c23,c22];refine EW (.ones [0,1,2,3,4,5,6,7,8] (.alt 9 (.ones [10] .done) .non)) (by kernel_rfl) ?_;simp only[DN,IE,jU,jT];simp -implicitDefEqProofs only[vQ,↓reduceIte,jA,jM,enP,F7,U1,jO,f2,f3,f4,f5,lb q2,ld0 q3,ix0 qa,lw0 qa,ix1 qa,lw1 qa];refine⟨(AJ7 G s' e.op _ _ w0 w1 o0 ow1).use (k:=fun r=>ret r) (by rw[J4]; exact hS) hb (hk.trans k') ?_,trivial⟩;intro r l1 H1 er hS s1 k1;have q4:=k1.keep _ _ q4 (by omega);obtain⟨H2,st,fe⟩:=fin _ H1 r l1 (by first|exact f4|(simp -implicitDefEqProofs only[f4])) hS s1 (k'.trans k1) q4;simp -implicitDefEqProofs only[vQ,↓reduceIte,jA,f4,st];exact fe
end
end Go.Proofs.YtgnoolgeijmlaaaGreatDoor.Bl
