/- Part 8 of the proof (X6); no condition. -/
import Derived.Test.YtgnoolgeijmlaaaGreatDoorZC7
set_option linter.unusedVariables false
set_option linter.unusedSimpArgs false
set_option maxRecDepth 8000
namespace Go.Proofs.YtgnoolgeijmlaaaGreatDoor.Xe
open Sm Bins Cov Wd Go.RowKit
open Bool renaming not_false→jC,not_true→jT
open Int renaming reduceBEq→zC
open List renaming mem_cons→qR,map_cons→jF,map_nil→jE,append_nil→jD,getElem?_cons_zero→jQ,getElem?_cons_succ→jR,length_append→zQ,length_cons→zS
open Nat renaming le_of_ble_eq_true→jG,reduceEqDiff→jA,add_zero→jI,zero_add→jH
open Option renaming getD_some→jB
theorem ARR {xs:List Ex}(h:errs xs=0) : ∀ x∈xs,JA x=0:=by
 induction xs with
 | nil=>intro x hx; cases hx
 | cons y ys ih =>
   have h1:ys.foldl (fun z e=>if z=0 then JA e else z) (JA y)=0:=h
   have hy:JA y=0:=by
    rcases Classical.em (JA y=0) with q | q
    ·exact q
    ·rw[AGJ _ _ q] at h1; exact h1
   rw[hy] at h1
   intro x hx
   rcases qR.1 hx with rfl | hx
   ·exact hy
   ·exact ih h1 x hx
theorem AE1 {e:Ex}(h:exE e=0) : ∀ x∈pre e,JA x=0:=by
 unfold exE at h
 split at h
 ·cases h
 ·exact ARR h
def evE (l:List Sg)(e:Ex):Nat × Int:=if exE e≠0 then (0,1) else if(pre e).all (knE l)=true then (XV l e,0) else (0,7)
def evV (p:Nat × Int):AV := .tup [.int .i64 (p.1:Nat),.int .i64 p.2]
theorem AKW (p:Nat × Int)(n:Nat)(H:Hp):JS n H 2 (evV p)=evV p:=rfl
section
variable (G:Nat→AV)
theorem ASO (op:Int)(h:Hp):PCall (En G) 112 [.int .i64 op] h (.bool ((op == 1) || KJ op)):=by
 refine acN Tryz.func112 rfl ?_
 show awp _ _ _ _ _ (EE _ [.tmp 2] _)
 simp -implicitDefEqProofs only[vQ,CP,BF,↓reduceIte,jA,enX,enP]
 cases ha:(op == 1)
 ·simp -implicitDefEqProofs only[vQ,Bool.false_or,CP,BF,↓reduceIte,jA,ha]
  refine(VM G op h).use ?_
  simp -implicitDefEqProofs only[vQ,BF,↓reduceIte,jA]
  exact⟨by trivial,trivial⟩
 ·simp -implicitDefEqProofs only[vQ,Bool.true_or,CP,BF,EN,↓reduceIte,jA,ha]
  exact⟨by trivial,trivial⟩
def lfE (l:List Sg)(e:Ex)(vs:List Nat):Nat × Int:=if knE l e=true then (WO l e.op e.n e.name vs,0) else (0,7)
theorem AQS (l:List Sg)(m:SM)(e:Ex)(vs:List Nat)(v:AV)(h0 h:Hp)(hl:l.length≤1099511627776)(hok : ∀ s∈l,ALT s)(hnz:e.name.size≤1048576)(hnode:JA e=0)(hask:e.op=1∨e.op=2∨e.op=3∨e.op=24)(hvs:vs.length=e.args.length)(ho:outG 1 AIQ h0 vs v h) :
  PCall (En G) 113 [.agg (D6 e),.sl m 2 (l.map PK),v] h (evV (lfE l e vs)):=by
 refine UN 2 (AKW _) ?_
 obtain⟨o1,o3,_⟩:=YH hnode
 refine acN Tryz.func113 rfl ?_
 show awp _ _ _ _ _ (EE _ [.tmp 6,.tmp 7] _)
 have ge:=CW h (ABlk.live 4 [D6 e])
 have hx:ext h (h++[ABlk.live 4 [D6 e]]):=(ext.rfl' h).app _
 have ho1:=ho.app [ABlk.live 4 [D6 e]]
 simp -implicitDefEqProofs only[vQ,BF,↓reduceIte,jA,enP,G9,bxE]
 generalize h++[ABlk.live 4 [D6 e]]=H at ge hx ho1 ⊢
 have l0:DC Tryz.prog H 3 (.ptr h.length 0 0)=some (.int .i64 e.op):=by rw[DF ag3 ge (row:=D6 e) rfl,JM]
 have l1:DC Tryz.prog H 3 (.ptr h.length 0 1)=some (.int .i64 e.n):=by rw[DF ag3 ge (row:=D6 e) rfl,Y6]
 have l2:DC Tryz.prog H 9 (.ptr h.length 0 2)=some (.str e.name):=by rw[DF ag9 ge (row:=D6 e) rfl,PL]
 simp -implicitDefEqProofs only[vQ,BF,↓reduceIte,enP,l0]
 by_cases e1:e.op=1
 ·have c1:(e.op == 1)=true:=by simpa using e1
  have hk:knE l e=true:=by unfold knE; rw[if_neg (by omega),if_neg (by omega)]
  have:=o1 e1
  simp -implicitDefEqProofs only[vQ,MH,BF,↓reduceIte,jA,enP,ZT,c1,l1]
  refine⟨?_,hx⟩
  unfold lfE WO evV
  rw[if_pos hk,if_pos e1]
  congr 3; show e.n=((e.n.toNat % 65536:Nat):Int); omega
 have c1:(e.op == 1)=false:=by simpa using e1
 by_cases e2:e.op=2
 ·have c2:(e.op == 2)=true:=by simpa using e2
  have hkn:knE l e=(NW l e.name).2:=by unfold knE; rw[if_pos e2]
  simp -implicitDefEqProofs only[vQ,BF,↓reduceIte,jA,enP,G9,KZ,c1,c2,l0,l2]
  refine(find_ref G l m _ H hl hok).use ?_
  unfold AMJ
  simp -implicitDefEqProofs only[vQ,jQ,jR,BF,↓reduceIte,jA]
  cases hk:(NW l e.name).2
  ·simp -implicitDefEqProofs only[vQ,MH,BF,↓reduceIte,jA]
   exact⟨by unfold lfE; rw[if_neg (by rw[hkn,hk]; decide)]; rfl,hx⟩
  ·simp -implicitDefEqProofs only[vQ,MH,BF,↓reduceIte,jA,jT]
   exact⟨by unfold lfE WO; rw[if_pos (by rw[hkn,hk]),if_neg e1,if_pos e2]; rfl,hx⟩
 have c2:(e.op == 2)=false:=by simpa using e2
 have hkn:knE l e=(NW l (elN e.name 0)).2:=by
  unfold knE
  rw[if_neg e2,if_pos (by omega)]
  unfold atG
  rw[if_neg (by omega)]; rfl
 simp -implicitDefEqProofs only[vQ,BF,↓reduceIte,jA,enP,G9,KZ,c1,c2,l0,l2]
 refine(AAT G e.name 0 (by omega) H hnz).use ?_
 simp -implicitDefEqProofs only[vQ,BF,↓reduceIte,jA]
 refine(find_ref G l m _ H hl hok).use ?_
 unfold AMJ
 simp -implicitDefEqProofs only[vQ,jQ,jR,BF,↓reduceIte,jA]
 cases hk:(NW l (elN e.name 0)).2
 ·simp -implicitDefEqProofs only[vQ,MH,BF,↓reduceIte,jA]
  exact⟨by unfold lfE; rw[if_neg (by rw[hkn,hk]; decide)]; rfl,hx⟩
 have hk':knE l e=true:=by rw[hkn,hk]
 by_cases e3:e.op=3
 ·have c3:(e.op == 3)=true:=by simpa using e3
  have hl1:vs.length=1:=by rw[hvs,o3 e3]
  obtain⟨o,rfl,hob⟩ : ∃ o,v = .own o 0 1∧H[o]? = some (.live 1 (vs.map AIQ)):=by
   rcases ho1 with⟨h0,_⟩ | ⟨_,o,_,rfl,hb⟩
   ·rw[h0] at hl1; simp at hl1
   ·exact⟨o,by rw[hl1],hb⟩
  have hlen:0 < vs.length:=by omega
  have i0:KT 1 H (.own o 0 1) (.int .i64 0)=some (.ptr o 0 0):=N9 (n:=0) hob (by decide)
  have d0:DC Tryz.prog H 3 (.ptr o 0 0)=some (.int .i64 (vs.getD 0 0:Nat)):=by
   rw[DF ag3 hob (row:=AIQ vs[0]) (VG hlen),List.getD_eq_getElem?_getD,List.getElem?_eq_getElem hlen]; rfl
  simp -implicitDefEqProofs only[vQ,BF,↓reduceIte,jA,jT,enP,G9,l0,c3]
  refine F7 (by kernel_rfl) ?_
  simp -implicitDefEqProofs only[vQ,MH,↓reduceIte,jA,Nat.reduceAdd,enP,MX,KZ,l2,i0,d0]
  refine⟨_,AAL G l m _ _ H hl hok hnz,?_⟩
  try simp -implicitDefEqProofs only[]
  exact⟨by unfold lfE WO; rw[if_pos hk',if_neg e1,if_neg e2,if_pos e3]; rfl,hx⟩
 have c3:(e.op == 3)=false:=by simpa using e3
 have e24:e.op=24:=by omega
 simp -implicitDefEqProofs only[vQ,BF,↓reduceIte,jA,jT,enP,G9,l0,c3]
 refine DY (fun k F H' => ∃ j,k+j=8∧F 1 = .sl m 2 (l.map PK)∧F 3 = .ptr h.length 0 0∧F 12 = .int .i64 (sumTo l e.name j:Nat)∧F 13 = .int .i64 (j:Nat)∧H'=H) 8 ⟨0,by simp,by simp -implicitDefEqProofs only[vQ,↓reduceIte,jA],by simp -implicitDefEqProofs only[AA,↓reduceIte,jA],by simp -implicitDefEqProofs only[AA,↓reduceIte,jA] <;> rfl,by simp -implicitDefEqProofs only[AA,↓reduceIte] <;> rfl,rfl⟩ ?_
 rintro k F H' ⟨j,hj,f1,f3,f12,f13,rfl⟩
 simp -implicitDefEqProofs only[vQ,BF,↓reduceIte,enP,f13]
 refine CX (fun hc => ?_) (fun hc => ?_)
 ·have hj':j < 8:=by simp at hc; omega
  simp -implicitDefEqProofs only[vQ,BF,↓reduceIte,jA,enP,KZ,f1,f3,f12,f13,l2]
  refine(AAL G l m _ _ H' hl hok hnz).use ?_
  simp -implicitDefEqProofs only[vQ,BF,↓reduceIte,jA]
  refine(AWV G _ _ (AHJ l _ j) (ASN l _ (j:Nat)) H').use ?_
  simp -implicitDefEqProofs only[vQ,BF,↓reduceIte,jA,enP,f1,f3,f12,f13,wrap_succ (show j < 9223372036854775807 by omega)]
  exact⟨k - 1,by omega,j+1,by omega,by trivial,by trivial,by trivial,by trivial,trivial⟩
 ·have hj':j=8:=by simp at hc; omega
  subst hj'
  simp -implicitDefEqProofs only[vQ,MH,BF,↓reduceIte,jA,f12]
  exact⟨by unfold lfE WO; rw[if_pos hk',if_neg e1,if_neg e2,if_neg e3,if_pos e24]; rfl,hx⟩
def vlE (l:List Sg)(e:Ex):Nat × Int:=if(pre e).all (knE l)=true then (XV l e,0) else (0,7)
theorem UO : ∀ xs:List Ex,xs.length≤(IP xs).length
 | []=>by simp [IP]
 | x :: xs=>by
   have:=UO xs
   simp only[IP,zQ,zS,pre_eq x]; omega
theorem PD {a:Ex} : ∀ {xs:List Ex},a∈xs→(pre a).length≤(IP xs).length
 | x :: xs,h=>by
   simp only[IP,zQ]
   rcases qR.1 h with rfl | h
   ·omega
   ·have:=PD h; omega
theorem AMH (l:List Sg)(e:Ex):(pre e).all (knE l)=(knE l e && (IP e.args).all (knE l)):=by rw[pre_eq]; rfl
set_option maxHeartbeats 1000000 in
theorem ANN (l:List Sg)(m:SM)(hl:l.length≤1099511627776)(hok : ∀ s∈l,ALT s)(e:Ex):(pre e).length≤1048576→(∀ x∈pre e,x.name.size≤1048576)→(∀ x∈pre e,JA x=0)→∀ h:Hp,PCall (En G) 54 [.agg (D6 e),.sl m 2 (l.map PK)] h (evV (vlE l e)):=by
 induction e using Ex.induct with | h e ih => ?_
 intro hw hnm hval h
 have hpl:=congrArg List.length (pre_eq e)
 rw[zS] at hpl
 have hal:e.args.length≤1048576:=by have:=UO e.args; omega
 have hnode:=hval e (by rw[pre_eq]; simp)
 obtain⟨o1,o3,oo⟩:=YH hnode
 refine UN 2 (AKW _) ?_
 refine acN Tryz.func54 rfl ?_
 show awp _ _ _ _ _ (EE _ [.tmp 4,.tmp 5] _)
 have ge:=CW h (ABlk.live 4 [D6 e])
 have hx:ext h (h++[ABlk.live 4 [D6 e]]):=(ext.rfl' h).app _
 simp -implicitDefEqProofs only[vQ,BF,enP,bxE]
 generalize h++[ABlk.live 4 [D6 e]]=H1 at ge hx ⊢
 generalize h.length=eb at ge ⊢
 refine GZ 0 (fun F H => ∃ v,F 1 = .sl m 2 (l.map PK)∧F 2 = .ptr eb 0 0∧F 6=v∧ext H1 H∧outG 1 AIQ H1 (MW l e.args) v H∧(IP e.args).all (knE l)=true) (fun F H=>F 4 = .int .i64 0∧F 5 = .int .i64 7∧ext H1 H∧(IP e.args).all (knE l)=false) ?_ ?_ ?_
 ·refine DY (fun k F H => ∃ j v,k+j=e.args.length∧F 1 = .sl m 2 (l.map PK)∧F 2 = .ptr eb 0 0∧F 6=v∧F 7 = .int .i64 (j:Nat)∧ext H1 H∧outG 1 AIQ H1 (MW l (e.args.take j)) v H∧(IP (e.args.take j)).all (knE l)=true) e.args.length
   ⟨0,.sl .nil 0 [],by simp,by simp -implicitDefEqProofs only[vQ,↓reduceIte,jA],by simp -implicitDefEqProofs only[AA,↓reduceIte,jA],by simp -implicitDefEqProofs only[AA,↓reduceIte,jA],by simp -implicitDefEqProofs only[AA,↓reduceIte] <;> rfl,ext.rfl' H1,outG.nil _ _ _ _,rfl⟩ ?_
  rintro k F H ⟨j,v,hj,f1,f2,f6,f7,hxH,ho,hkn⟩
  have geH:=FC hxH ge
  have l3:DC Tryz.prog H 23 (.ptr eb 0 3)=some (.sl e.m 4 (e.args.map D6)):=by rw[DF V7 geH (row:=D6 e) rfl,WH]
  simp -implicitDefEqProofs only[vQ,BF,↓reduceIte,jA,enP,WX,NL,f2,f7,l3,List.length_map]
  refine CX (fun hc => ?_) (fun hc => ?_)
  ·have hj':j < e.args.length:=by simpa using hc
   have hmem:e.args[j]∈e.args:=List.getElem_mem hj'
   have htl:(MW l (e.args.take j)).length < 8388608:=by rw[AEI]; simp; omega
   have hsplit:IP e.args=IP (e.args.take j)++(pre e.args[j]++IP (e.args.drop (j+1))):=by
    rw[← List.append_assoc,← KD _ _ hj',← LZ,List.take_append_drop]
   obtain⟨v',H',ha,ho',_,hx',_,_⟩:=ho.append (P:=Tryz.prog) AXD sz3 AY0 AYL (by omega) htl hxH (XV l e.args[j])
   have ha':IJ Tryz.prog true H 29 29 v (.sl .full 1 [[.int .i64 ((XV l e.args[j]:Nat):Int)]])=some (v',H'):=ha
   simp -implicitDefEqProofs only[vQ,BF,↓reduceIte,jA,enP,AA2,NL,f1,f2,f7,l3,EQ hj',F8 ZG RN IM hj']
   refine(ih e.args[j] hmem (by have:=PD hmem; omega) (fun x hx=>hnm x (by rw[pre_eq]; exact List.mem_cons_of_mem _ (VI hmem x hx))) (fun x hx=>hval x (by rw[pre_eq]; exact List.mem_cons_of_mem _ (VI hmem x hx))) _).use ?_
   unfold vlE
   cases hk:(pre e.args[j]).all (knE l)
   ·simp only[Bool.false_eq_true,if_false,evV]
    simp -implicitDefEqProofs only[vQ,jQ,jR,BF,↓reduceIte,jA,enP,Int.reduceBNe,zC]
    exact⟨by trivial,by trivial,hxH,by rw[hsplit,List.all_append,List.all_append,hk]; simp⟩
   ·simp only[if_true,evV]
    simp -implicitDefEqProofs only[vQ,jQ,jR,BF,MV,↓reduceIte,jA,enP,Int.reduceBNe,zC,bne_self_eq_false,f6,A1D,ha',f1,f2,f7,wrap_succ (show j < 9223372036854775807 by omega)]
    exact⟨k - 1,by omega,j+1,v',by omega,by trivial,by trivial,by trivial,by trivial,hx',by rw[AJR _ _ _ hj']; exact ho',by rw[KD _ _ hj',List.all_append,hkn,hk]; rfl⟩
  ·have hj' : ¬ j < e.args.length:=by simpa using hc
   rw[List.take_of_length_le (by omega)] at ho hkn
   simp -implicitDefEqProofs only[vQ,↓reduceIte,jA]
   exact⟨v,f1,f2,f6,hxH,ho,hkn⟩
 ·rintro F H ⟨v,f1,f2,f6,hxH,ho,hkn⟩
  have geH:=FC hxH ge
  have hxx:=hx.trans hxH
  have l0:DC Tryz.prog H 3 (.ptr eb 0 0)=some (.int .i64 e.op):=by rw[DF ag3 geH (row:=D6 e) rfl,JM]
  have hvl:=AEI l e.args
  have hpa:(pre e).all (knE l)=knE l e:=by rw[AMH,hkn,Bool.and_true]
  simp -implicitDefEqProofs only[vQ,BF,↓reduceIte,enP,G9,f2,l0]
  refine(ASO G e.op H).use ?_
  simp -implicitDefEqProofs only[vQ,↓reduceIte]
  cases hq:((e.op == 1) || KJ e.op)
  ·have hne:e.op≠1∧e.op≠2∧e.op≠3∧e.op≠24:=by
    unfold KJ at hq; simp at hq; omega
   obtain⟨e1,e2,e3,e24⟩:=hne
   have hok':AS1 e.op (MW l e.args).length:=by rw[hvl]; exact oo e1 e2 e3 e24
   obtain⟨o,rfl,hob⟩ : ∃ o,v = .own o 0 (MW l e.args).length∧H[o]? = some (.live 1 ((MW l e.args).map AIQ)):=by
    rcases ho with⟨h0,_⟩ | ⟨_,o,_,rfl,hb⟩
    ·exfalso
     rw[h0] at hok'
     obtain⟨a,b,c⟩:=hok'
     by_cases q:e.op=22
     ·have:=a q; simp at this
     by_cases q':e.op=23
     ·have:=b q'; simp at this
     ·have:=c q q'; simp at this
    ·exact⟨o,rfl,hb⟩
   simp -implicitDefEqProofs only[vQ,BF,↓reduceIte,jA,enP,G9,f2,l0,f6]
   refine(AQD G e.op _ o H hob (APP l _) (by omega) hok').use ?_
   simp -implicitDefEqProofs only[vQ,MH,BF,↓reduceIte,jA]
   have hk:knE l e=true:=by unfold knE; rw[if_neg e2,if_neg (by omega)]
   refine⟨?_,hxx⟩
   unfold vlE
   rw[hpa,if_pos hk,ABC]
   unfold WO
   rw[if_neg e1,if_neg e2,if_neg e3,if_neg e24]; rfl
  ·have hask:e.op=1∨e.op=2∨e.op=3∨e.op=24:=by
    unfold KJ at hq; simp at hq; omega
   simp -implicitDefEqProofs only[vQ,BF,↓reduceIte,jA,enP,f1,f2,f6,IU geH]
   refine(AQS G l m e _ v H1 H hl hok (hnm e (by rw[pre_eq]; simp)) hnode hask hvl ho).use ?_
   have hlf:lfE l e (MW l e.args)=vlE l e:=by unfold lfE vlE; rw[hpa,ABC]
   rw[hlf]
   unfold evV
   simp -implicitDefEqProofs only[vQ,jQ,jR,MH,BF,↓reduceIte,jA]
   exact⟨by trivial,hxx⟩
 ·rintro F H ⟨f4,f5,hxH,hkn⟩
  simp -implicitDefEqProofs only[vQ,MH,f4,f5]
  exact⟨by unfold vlE; rw[AMH,hkn,Bool.and_false]; rfl,hx.trans hxH⟩
theorem APD (l:List Sg)(m:SM)(e:Ex)(h:Hp)(hl:l.length≤1099511627776)(hok : ∀ s∈l,ALT s)(hw:WN e):PCall (En G) 26 [.agg (D6 e),.sl m 2 (l.map PK)] h (evV (evE l e)):=by
 refine UN 2 (AKW _) ?_
 refine acN Tryz.func26 rfl ?_
 show awp _ _ _ _ _ (EE _ [.tmp 4,.tmp 5] _)
 have ge:=CW h (ABlk.live 4 [D6 e])
 have hx:ext h (h++[ABlk.live 4 [D6 e]]):=(ext.rfl' h).app _
 simp -implicitDefEqProofs only[vQ,BF,↓reduceIte,jA,enP,bxE]
 generalize h++[ABlk.live 4 [D6 e]]=H at ge hx ⊢
 simp -implicitDefEqProofs only[vQ,BF,↓reduceIte,IU ge]
 refine(Y4 G e H hw).use ?_
 simp -implicitDefEqProofs only[vQ,BF,↓reduceIte,enP]
 cases hv:(exE e == 0)
 ·have hne:exE e≠0:=by simpa using hv
  simp -implicitDefEqProofs only[vQ,MH,BF,↓reduceIte,jA,bne,hv]
  exact⟨by unfold evE; rw[if_pos hne]; rfl,hx⟩
 have h0:exE e=0:=by simpa using hv
 simp -implicitDefEqProofs only[vQ,BF,↓reduceIte,jA,jT,enP,bne,hv,IU ge]
 have h400:(pre e).length≤1048576:=by
  unfold exE at h0
  split at h0
  ·cases h0
  ·rename_i q; rw[h0] at q; simp at q; omega
 refine(ANN G l m hl hok e h400 hw.2 (AE1 h0) H).use ?_
 have he:evE l e=vlE l e:=by unfold evE vlE; rw[if_neg (by simpa using h0)]
 rw[he]
 unfold evV
 simp -implicitDefEqProofs only[vQ,jQ,jR,MH,BF,↓reduceIte,jA]
 exact⟨by trivial,hx⟩
end
end Go.Proofs.YtgnoolgeijmlaaaGreatDoor.Xe
