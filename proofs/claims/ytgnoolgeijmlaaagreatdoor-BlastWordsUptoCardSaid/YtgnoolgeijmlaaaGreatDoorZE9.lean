/- Part 9 of the proof (V2, V3, V4, V5, V6, V7, V8, Kb, Kw); no condition. -/
import Derived.LaidMore
import Derived.Shelf.Vars
import Derived.Test.YtgnoolgeijmlaaaGreatDoorZE8
set_option linter.unusedVariables false
set_option linter.unusedSimpArgs false
set_option maxRecDepth 8000
namespace Go.Proofs.YtgnoolgeijmlaaaGreatDoor.Bd
open Sm Bins Cov Xe Go.RowKit
open Bool renaming not_false→jC,false_or→qG,eq_iff_iff→qH,true_and→qF,or_true→qP,or_false→jV,not_true→jZ
open Int renaming toNat_natCast→qV,eq_ofNat_of_zero_le→qM
open List renaming length_cons→zZ,length_map→jR,getElem_mem→zC,append_assoc→zJ,take_append_drop→wK,map_cons→jF,map_nil→jE,append_nil→jD,take_of_length_le→zH,nil_append→qA,cons_append→qJ,length_append→zT,take_zero→qC,getElem?_eq_getElem→jX,length_take→zX,any_eq_true→wG,getElem_of_mem→qW,take_succ_eq_append_getElem→qK,drop_eq_getElem_cons→zU,getElem?_set→zI,getElem?_eq_none→zO,replicate→jJ,eq_nil_of_length_eq_zero→qI,mem_append→qE,mem_singleton→wB,contains_cons→jW,contains_nil→jI
open Nat renaming le_of_ble_eq_true→jH,reduceEqDiff→jA,add_zero→jL,zero_add→jG,lt_or_ge→jY,le_refl→jP,reduceBEq→jK
open Option renaming getD_some→jB,getD_none→jO
def NT (x:Ex):Bool:=(x.op==3)||(x.op==24)
def U2 (l:List Vr)(x:Ex):Bool:=(x.op==2)&&decide (plc l x.name<0)
def AB7 (e:Ex):Bool:=(pre e).any NT
def AAQ (l:List Vr)(e:Ex):Bool:=(pre e).any (U2 l)
def plE (l:List Vr)(e:Ex):Int:=if AB7 e=true then 9 else if AAQ l e=true then 7 else 0
def xpE (l:List Vr)(e:Ex):Int:=if exE e≠0 then exE e else plE l e
def LP (l:List Vr)(xs:List Ex):Int:=PG (xpE l) xs
theorem AJK {α:Type}(f:α->Int):∀xs ys:List α,PG f (xs++ys)=if PG f xs≠0 then PG f xs else PG f ys
 | [],ys=>by simp [PG]
 | x::xs,ys=>by
   have ih:=AJK f xs ys;show(if f x≠0 then f x else PG f (xs++ys))=if(if f x≠0 then f x else PG f xs)≠0 then (if f x≠0 then f x else PG f xs) else PG f ys
   rw[ih];by_cases h:f x≠0
   .rw[if_pos h,if_pos h,if_pos h]
   .rw[if_neg h,if_neg h]
section
variable (G:Nat->AV)
theorem arrays_ref (e:Ex):(pre e).length<=1048576->∀h:Hp,PCall (En G) 159 [.agg (EF e)] h (.bool (AB7 e)):=by
 induction e using Ex.induct with|h e ih=>?_
 intro hw h;have hpl:=congrArg List.length (pre_eq e);rw[zZ] at hpl;have hal:e.args.length<=1048576:=by have:=VG e.args; omega
 have hev:AB7 e=(NT e||(IR e.args).any NT):=by unfold AB7; rw[pre_eq,List.any_cons]
 rw[hev];refine ACalls.pure0 rfl ?_;refine acN Tryz.func159 rfl ?_;show awp _ _ _ _ _ (EK _ [.tmp 2] _);have ge:=CU h (ABlk.live 4 [EF e]);have hx:ext h (h++[ABlk.live 4 [EF e]]):=(ext.rfl' h).app _;simp -implicitDefEqProofs only[vQ,BD,↓reduceIte,jA,enP,F7,bxE];generalize h++[ABlk.live 4 [EF e]]=H1 at ge hx|-;generalize h.length=eb at ge|-;have l0:DF Tryz.prog H1 3 (.ptr eb 0 0)=some (.int .i64 e.op):=by rw[DJ ag3 ge (row:=EF e) rfl,J9]
 have l3:DF Tryz.prog H1 23 (.ptr eb 0 3)=some (.sl e.m 4 (e.args.map EF)):=by rw[DJ VX ge (row:=EF e) rfl,VQ]
 simp -implicitDefEqProofs only[vQ,CV,BD,↓reduceIte,enP,l0];cases b3:(e.op==3)
 case true =>
  simp -implicitDefEqProofs only[vQ,CV,BD,EY,↓reduceIte,jA,b3];exact⟨by unfold NT; rw[b3]; rfl,hx⟩
 simp -implicitDefEqProofs only[vQ,CV,BD,↓reduceIte,jA,enP,F7,b3,l0];cases b4:(e.op==24)
 case true =>
  simp -implicitDefEqProofs only[vQ,BD,↓reduceIte,b4];exact⟨by unfold NT; rw[b3,b4]; rfl,hx⟩
 have h0:NT e=false:=by unfold NT; rw[b3,b4]; rfl
 rw[h0,qG];simp -implicitDefEqProofs only[vQ,BD,b4];refine D7 (fun k F H=>∃j,k+j=e.args.length∧F 1=.ptr eb 0 0∧F 3=.int .i64 (j:Nat)∧H=H1∧(IR (e.args.take j)).any NT=false) e.args.length ⟨0,by simp,by simp -implicitDefEqProofs only[AA,↓reduceIte,jA],by simp -implicitDefEqProofs only[AA,↓reduceIte]; rfl,rfl,rfl⟩ ?_;rintro k F H ⟨j,hj,f1,f3,rfl,hkn⟩;simp -implicitDefEqProofs only[vQ,BD,↓reduceIte,jA,enP,WT,ND,f1,f3,l3,jR];refine C9 (fun hc=>?_) (fun hc=>?_)
 .have hj':j<e.args.length:=by simpa using hc
  have hmem:e.args[j]∈e.args:=zC hj'
  have hsplit:IR e.args=IR (e.args.take j)++(pre e.args[j]++IR (e.args.drop (j+1))):=by
   rw[<-zJ,<-KW _ _ hj',<-MS,wK]
  simp -implicitDefEqProofs only[vQ,BD,↓reduceIte,jA,enP,AAO,ND,f1,f3,l3,EZ hj',GM YB RX IZ hj'];refine(ih e.args[j] hmem (by have:=QA hmem; omega) H).use ?_;simp -implicitDefEqProofs only[vQ,↓reduceIte];refine C9 (fun hb=>?_) (fun hb=>?_)
  .simp -implicitDefEqProofs only[vQ,BD,↓reduceIte]
   refine⟨?_,hx⟩;have hb:(pre e.args[j]).any NT=true:=hb;rw[hsplit,List.any_append,List.any_append,hb]; simp
  .simp -implicitDefEqProofs only[vQ,BD,↓reduceIte,jA,enP,f3,wrap_succ (show j<9223372036854775807 by omega)]
   have hb:(pre e.args[j]).any NT=false:=hb;exact⟨k-1,by omega,j+1,by omega,by trivial,rfl,trivial,by rw[KW _ _ hj',List.any_append,hkn,hb]; rfl⟩
 .have hj':¬j<e.args.length:=by simpa using hc
  rw[zH (by omega)] at hkn;simp -implicitDefEqProofs only[vQ,BD,↓reduceIte];exact⟨by rw[hkn],hx⟩
theorem AJL (l:List Vr)(m:SM)(hl:l.length<=1048576)(e:Ex):(pre e).length<=1048576->∀h:Hp,PCall (En G) 160 [.sl m 4 (l.map FI),.agg (EF e)] h (.bool (AAQ l e)):=by
 induction e using Ex.induct with|h e ih=>?_
 intro hw h;have hpl:=congrArg List.length (pre_eq e);rw[zZ] at hpl;have hal:e.args.length<=1048576:=by have:=VG e.args; omega
 have hev:AAQ l e=(U2 l e||(IR e.args).any (U2 l)):=by unfold AAQ; rw[pre_eq,List.any_cons]
 rw[hev];refine ACalls.pure0 rfl ?_;refine acN Tryz.func160 rfl ?_;show awp _ _ _ _ _ (EK _ [.tmp 4] _);have ge:=CU h (ABlk.live 4 [EF e]);have hx:ext h (h++[ABlk.live 4 [EF e]]):=(ext.rfl' h).app _;simp -implicitDefEqProofs only[vQ,BD,↓reduceIte,jA,enP,F7,bxE];generalize h++[ABlk.live 4 [EF e]]=H1 at ge hx|-;generalize h.length=eb at ge|-;have l0:DF Tryz.prog H1 3 (.ptr eb 0 0)=some (.int .i64 e.op):=by rw[DJ ag3 ge (row:=EF e) rfl,J9]
 have l2:DF Tryz.prog H1 9 (.ptr eb 0 2)=some (.str e.name):=by rw[DJ ag9 ge (row:=EF e) rfl,PH]
 have l3:DF Tryz.prog H1 23 (.ptr eb 0 3)=some (.sl e.m 4 (e.args.map EF)):=by rw[DJ VX ge (row:=EF e) rfl,VQ]
 simp -implicitDefEqProofs only[vQ,CV,BD,↓reduceIte,enP,l0];refine RU (fun F H=>F 0=.sl m 4 (l.map FI)∧F 3=.ptr eb 0 0∧F 15=.bool (U2 l e)∧H=H1) ?_ ?_
 .cases b2:(e.op==2)
  .simp -implicitDefEqProofs only[vQ,CV,BD,EY,↓reduceIte,jA,b2]
   exact⟨trivial,trivial,by unfold U2; rw[b2]; rfl,trivial⟩
  .simp -implicitDefEqProofs only[vQ,CV,BD,↓reduceIte,jA,enP,LM,b2,l2]
   refine(XT G l m e.name H1 (by omega)).use ?_;simp -implicitDefEqProofs only[vQ,CV,BD,↓reduceIte,jA,enP,b2];exact⟨trivial,trivial,by unfold U2; rw[b2]; rfl,trivial⟩
 rintro F H ⟨f0,f3,f15,rfl⟩;simp -implicitDefEqProofs only[vQ,f15];refine C9 (fun hb=>?_) (fun hb=>?_)
 .simp -implicitDefEqProofs only[vQ,BD,↓reduceIte]
  exact⟨by rw[hb]; rfl,hx⟩
 rw[hb,qG];simp -implicitDefEqProofs only[vQ,BD];refine D7 (fun k F H'=>∃j,k+j=e.args.length∧F 0=.sl m 4 (l.map FI)∧F 3=.ptr eb 0 0∧F 5=.int .i64 (j:Nat)∧H'=H∧(IR (e.args.take j)).any (U2 l)=false) e.args.length ⟨0,by simp,by simp -implicitDefEqProofs only[AA,↓reduceIte,jA,f0],by simp -implicitDefEqProofs only[AA,↓reduceIte,jA,f3],by simp -implicitDefEqProofs only[AA,↓reduceIte]; rfl,rfl,rfl⟩ ?_;clear f0 f3 f15;rintro k F H ⟨j,hj,f0,f3,f5,rfl,hkn⟩;simp -implicitDefEqProofs only[vQ,BD,↓reduceIte,jA,enP,WT,ND,f3,f5,l3,jR];refine C9 (fun hc=>?_) (fun hc=>?_)
 .have hj':j<e.args.length:=by simpa using hc
  have hmem:e.args[j]∈e.args:=zC hj'
  have hsplit:IR e.args=IR (e.args.take j)++(pre e.args[j]++IR (e.args.drop (j+1))):=by
   rw[<-zJ,<-KW _ _ hj',<-MS,wK]
  simp -implicitDefEqProofs only[vQ,BD,↓reduceIte,jA,enP,AAO,ND,f0,f3,f5,l3,EZ hj',GM YB RX IZ hj'];refine(ih e.args[j] hmem (by have:=QA hmem; omega) H).use ?_;simp -implicitDefEqProofs only[vQ,↓reduceIte];refine C9 (fun hb=>?_) (fun hb=>?_)
  .simp -implicitDefEqProofs only[vQ,BD,↓reduceIte]
   refine⟨?_,hx⟩;have hb:(pre e.args[j]).any (U2 l)=true:=hb;rw[hsplit,List.any_append,List.any_append,hb]; simp
  .simp -implicitDefEqProofs only[vQ,BD,↓reduceIte,jA,enP,f5,wrap_succ (show j<9223372036854775807 by omega)]
   have hb:(pre e.args[j]).any (U2 l)=false:=hb;exact⟨k-1,by omega,j+1,by omega,by trivial,by trivial,rfl,trivial,by rw[KW _ _ hj',List.any_append,hkn,hb]; rfl⟩
 .have hj':¬j<e.args.length:=by simpa using hc
  rw[zH (by omega)] at hkn;simp -implicitDefEqProofs only[vQ,BD,↓reduceIte];exact⟨by rw[hkn],hx⟩
theorem APD (l:List Vr)(m:SM)(hl:l.length<=1048576)(e:Ex)(hw:(pre e).length<=1048576)(h:Hp):PCall (En G) 111 [.sl m 4 (l.map FI),.agg (EF e)] h (.int .i64 (plE l e)):=by
 refine ACalls.pure0 rfl ?_;refine acN Tryz.func111 rfl ?_;show awp _ _ _ _ _ (EK _ [.tmp 4] _);simp -implicitDefEqProofs only[vQ,BD,↓reduceIte,jA,enP,bxE,ldE];refine(arrays_ref G e hw _).use ?_;simp -implicitDefEqProofs only[vQ,↓reduceIte];refine C9 (fun hb=>?_) (fun hb=>?_)
 .simp -implicitDefEqProofs only[vQ,BD,↓reduceIte]
  exact⟨by unfold plE; rw[hb]; rfl,_,rfl⟩
 simp -implicitDefEqProofs only[vQ,BD,↓reduceIte,jA,enP,ldE];refine(AJL G l m hl e hw _).use ?_;simp -implicitDefEqProofs only[vQ,↓reduceIte];refine C9 (fun hf=>?_) (fun hf=>?_)
 .simp -implicitDefEqProofs only[vQ,BD,↓reduceIte]
  exact⟨by unfold plE; rw[hb,hf]; rfl,_,rfl⟩
 .simp -implicitDefEqProofs only[vQ,BD,↓reduceIte]
  exact⟨by unfold plE; rw[hb,hf]; rfl,_,rfl⟩
theorem U4 (l:List Vr)(m:SM)(hl:l.length<=1048576)(xs:List Ex)(s:SM)(hx:xs.length<=1048576)(hw:∀e∈xs,wt e<=1048576)(h:Hp):PCall (En G) 51 [.sl m 4 (l.map FI),.sl s 4 (xs.map EF)] h (.int .i64 (LP l xs)):=by
 refine acN Tryz.func51 rfl ?_;show awp _ _ _ _ _ (EK _ [.tmp 4] _);simp -implicitDefEqProofs only[vQ,BD,enX,enP];refine D7 (fun n F H=>∃i,n+i=xs.length∧(∀(j:Nat) (hj:j<i) (hl:j<xs.length),xpE l xs[j]=0)∧F 0=.sl m 4 (l.map FI)∧F 1=.sl s 4 (xs.map EF)∧F 5=.int .i64 (i:Nat)∧H=h) xs.length ⟨0,by simp,fun j hj=>absurd hj (by omega),by simp -implicitDefEqProofs only[vQ,↓reduceIte,jA],by simp -implicitDefEqProofs only[vQ,↓reduceIte,jA],by simp -implicitDefEqProofs only[AA,↓reduceIte]; rfl,rfl⟩ ?_;rintro n F H ⟨i,hi,hb,f0,f1,f5,rfl⟩;simp -implicitDefEqProofs only[vQ,BD,↓reduceIte,jA,enP,WT,f1,f5,jR];refine C9 (fun hc=>?_) (fun hc=>?_)
 .have hi':i<xs.length:=by simpa using hc
  have hwi:=hw _ (zC hi');have hbad:xpE l xs[i]≠0->LP l xs=xpE l xs[i]:=fun hz=>Q8 (xpE l) xs i hi' (fun j hj=>hb j hj (by omega)) hz
  simp -implicitDefEqProofs only[vQ,BD,↓reduceIte,jA,enP,AAO,f1,f5,EZ hi',GM YB RX IZ hi'];refine(ABN G xs[i] H hwi).use ?_;simp -implicitDefEqProofs only[vQ,BD,↓reduceIte,enP];refine C9 (fun he=>?_) (fun he=>?_)
  .have he':exE xs[i]≠0:=by simpa [bne] using he
   have hxp:xpE l xs[i]=exE xs[i]:=by unfold xpE; rw[if_pos he']
   simp -implicitDefEqProofs only[vQ,BD,↓reduceIte,jA];exact⟨by rw[hbad (by rw[hxp]; exact he'),hxp],trivial⟩
  have he':exE xs[i]=0:=by simpa [bne] using he
  have hxp:xpE l xs[i]=plE l xs[i]:=by unfold xpE; rw[if_neg (by simp [he'])]
  simp -implicitDefEqProofs only[vQ,BD,↓reduceIte,jA,enP,AAO,f0,f1,f5,EZ hi',GM YB RX IZ hi'];refine(APD G l m hl xs[i] (by have:=XM xs[i]; omega) H).use ?_;simp -implicitDefEqProofs only[vQ,BD,↓reduceIte,enP];refine C9 (fun hp=>?_) (fun hp=>?_)
  .have hp':plE l xs[i]≠0:=by simpa [bne] using hp
   simp -implicitDefEqProofs only[vQ,BD,↓reduceIte,jA];exact⟨by rw[hbad (by rw[hxp]; exact hp'),hxp],trivial⟩
  .have hp':plE l xs[i]=0:=by simpa [bne] using hp
   simp -implicitDefEqProofs only[vQ,BD,↓reduceIte,jA,enP,f5,wrap_succ (show i<9223372036854775807 by omega)];refine⟨n-1,by omega,i+1,by omega,fun j hj hl=>?_,by trivial,by trivial,rfl,trivial⟩;rcases jY j i with h1|h1
   .exact hb j h1 hl
   .obtain rfl:j=i:=by omega
    rw[hxp]; exact hp'
 .have hi':¬i<xs.length:=by simpa using hc
  simp -implicitDefEqProofs only[vQ,BD,↓reduceIte];exact⟨by rw[LP,PQ (xpE l) xs fun j hj=>hb j (by omega) hj],trivial⟩
end
theorem ATY (e:Ex):decide (((nmL [3,24] [] (pre e)).length:Int)>0)=AB7 e:=by
 have h:=AGX (fun _=>false) [3,24] (pre e) []
 have h1:(nmL [3,24] [] (pre e)).all (fun _=>false)=decide ((nmL [3,24] [] (pre e)).length=0):=by
  cases nmL [3,24] [] (pre e)<;>simp
 rw[h1] at h;unfold AB7
 have h2:(pre e).any NT = !((pre e).all fun e => !Rk.hasB [3,24] e.op||false):=by
  rw[List.not_all_eq_any_not];congr 1;funext x;unfold NT Rk.hasB;rw[qH];simp;constructor
  .rintro (h|h)<;>simp [h]
  .rintro (h|h)<;>simp [h]
 rw[h2];simp only[List.all_nil,qF] at h;rw[<-h];cases nmL [3,24] [] (pre e)<;>simp
theorem AS0 (l:List Vr)(e:Ex):(nmL [2] [] (pre e)).any (fun n=>decide (plc l n<0))=AAQ l e:=by
 have h:=AGX (fun n => !decide (plc l n<0)) [2] (pre e) [];simp only[List.all_nil,qF] at h;rw[<-Bool.not_inj_iff,List.not_any_eq_all_not,h];unfold AAQ;rw[List.not_any_eq_all_not];congr 1;funext x;unfold U2 Rk.hasB;rw[qH];simp;constructor
 .rintro (h1|h1)
  .exact .inl fun e=>h1 e.symm
  .exact .inr h1
 .rintro (h1|h1)
  .exact .inl fun e=>h1 e.symm
  .exact .inr h1
theorem A3D (h:Hp)(a b:SM)(x y:List (List AV)):GG Tryz.prog false h 188 2 [(0,.sl a 4 x),(1,.sl b 4 y)]=some (.sl .full 1 [[.sl a 4 x],[.sl b 4 y]],h):=by kernel_rfl
section
variable (G:Nat->AV)
theorem A2D (p:Pr)(n:ByteArray)(c:Nat)(h:Hp)(hc:h[c]?=some (.live 5 [EE p]))(hl:p.vars.length<=1048576):PCall (En G) 126 ([.str n]++[.ptr c 0 0]) h (.bool (decide (plc p.vars n<0))):=by
 refine acN Tryz.func126 rfl ?_;show awp _ _ _ _ _ (EK _ [.tmp 3] _);have l0:DF Tryz.prog h 22 (.ptr c 0 0)=some (.sl p.vm 4 (p.vars.map FI)):=by rw[DJ TU hc (row:=EE p) rfl]; rfl
 simp -implicitDefEqProofs only[vQ,BD,qA,qJ,↓reduceIte,jA,enX,enP,KC,l0];refine(index_prog G p.vars p.vm n h (by omega)).use ?_;simp -implicitDefEqProofs only[vQ,BD,↓reduceIte,enP];exact⟨trivial,trivial⟩
theorem ALY (hG:GOk G)(p:Pr)(hl:p.vars.length<=1048576)(hx:p.hard.length+p.soft.length<=1048576)(hw:∀e∈p.hard++p.soft,wt e<=1048576)(h:Hp):PCall (En G) 62 [.agg (EE p)] h (.int .i64 (LP p.vars (p.hard++p.soft))):=by
 refine ACalls.pure0 rfl ?_;refine acN Tryz.func62 rfl ?_;show awp _ _ _ _ _ (EK _ [.tmp 2] _);have ge:=CU h (ABlk.live 5 [EE p]);have hxx:ext h (h++[ABlk.live 5 [EE p]]):=(ext.rfl' h).app _;simp -implicitDefEqProofs only[vQ,BD,↓reduceIte,jA,enP,AS7,UN];generalize h++[ABlk.live 5 [EE p]]=H1 at ge hxx|-;generalize h.length=eb at ge|-;have l1:DF Tryz.prog H1 23 (.ptr eb 0 1)=some (.sl p.hm 4 (p.hard.map EF)):=by rw[DJ VX ge (row:=EE p) rfl]; rfl
 have l2:DF Tryz.prog H1 23 (.ptr eb 0 2)=some (.sl p.sm 4 (p.soft.map EF)):=by rw[DJ VX ge (row:=EE p) rfl]; rfl
 simp -implicitDefEqProofs only[vQ,BD,↓reduceIte,jA,enP,AS6,l1,l2,A3D];have hfl:fl [⟨p.hm,p.hard⟩,⟨p.sm,p.soft⟩]=p.hard++p.soft:=by simp [fl]
 have hcc:=AJZ G [⟨p.hm,p.hard⟩,⟨p.sm,p.soft⟩] .full (by simp) (by rw[hfl,zT]; omega) H1;rw[hfl] at hcc;refine hcc.use ?_;have hxl:(p.hard++p.soft).length<=1048576:=by rw[zT]; omega
 generalize p.hard++p.soft=xs at hw hxl|-;simp -implicitDefEqProofs only[vQ,BD,↓reduceIte,enP,WT,jR];refine D7 (fun n F H=>∃i,n+i=xs.length∧(∀(j:Nat) (hj:j<i) (hl:j<xs.length),xpE p.vars xs[j]=0)∧F 1=.ptr eb 0 0∧F 11=.sl (nm xs) 4 (xs.map EF)∧F 12=.int .i64 (xs.length:Nat)∧F 13=.int .i64 (i:Nat)∧H[eb]?=some (.live 5 [EE p])∧ext h H) xs.length ⟨0,by simp,fun j hj=>absurd hj (by omega),by simp -implicitDefEqProofs only[AA,↓reduceIte,jA],by simp -implicitDefEqProofs only[AA,↓reduceIte,jA],by simp -implicitDefEqProofs only[AA,↓reduceIte,jA],by simp -implicitDefEqProofs only[AA,↓reduceIte]; rfl,ge,hxx⟩ ?_;clear ge hxx l1 l2;rintro n F H ⟨i,hi,hb,f1,f11,f12,f13,ge,hxx⟩;simp -implicitDefEqProofs only[vQ,BD,↓reduceIte,enP,f12,f13];refine C9 (fun hc=>?_) (fun hc=>?_)
 .have hi':i<xs.length:=by simpa using hc
  have hwi:=hw _ (zC hi');have hbad:xpE p.vars xs[i]≠0->LP p.vars xs=xpE p.vars xs[i]:=fun hz=>Q8 (xpE p.vars) xs i hi' (fun j hj=>hb j hj (by omega)) hz
  have ge1:(H++[ABlk.live 4 [EF xs[i]]])[eb]?=_:=BO ge;have hx1:ext h (H++[ABlk.live 4 [EF xs[i]]]):=hxx.app _;have gE:=CU H (ABlk.live 4 [EF xs[i]]);have al40:J6 Tryz.prog H 37=some (.ptr H.length 0 0,H++[.live 4 [[.int .i64 0,.int .i64 0,.str ⟨#[]⟩,.sl .nil 0 []]]]):=JU (row:=[.int .i64 0,.int .i64 0,.str ⟨#[]⟩,.sl .nil 0 []]) (by kernel_rfl)
  have st40:FO Tryz.prog (H++[.live 4 [[.int .i64 0,.int .i64 0,.str ⟨#[]⟩,.sl .nil 0 []]]]) 37 (.ptr H.length 0 0) (.agg (EF xs[i]))=some (H++[.live 4 [EF xs[i]]]):=by
   have hle:(EF xs[i]).length=4:=IZ _;rw[ACZ (cs:=EF xs[i]) (row:=[.int .i64 0,.int .i64 0,.str ⟨#[]⟩,.sl .nil 0 []]) (TC (by rw[O5]; rfl)) (by rw[hle]; exact RX) (CU _ _) (by rw[hle]; exact jP 4),OA]
   have:splice [.int .i64 0,.int .i64 0,.str ⟨#[]⟩,.sl .nil 0 []] 0 (EF xs[i])=EF xs[i]:=by
    unfold splice; rw[qC,List.drop_eq_nil_of_le (by rw[hle]; exact jP 4)]; simp
   rw[this]
  simp -implicitDefEqProofs only[vQ,BD,↓reduceIte,jA,enP,AAO,jO,f11,f13,EZ hi',GM YB RX IZ hi',al40,st40];generalize H++[ABlk.live 4 [EF xs[i]]]=H1 at ge1 hx1 gE|-;simp -implicitDefEqProofs only[vQ,BD,↓reduceIte,JH gE];refine(ZO G hG xs[i] _ hwi).use ?_;simp -implicitDefEqProofs only[vQ,BD,↓reduceIte,enP];refine C9 (fun he=>?_) (fun he=>?_)
  .have he':exE xs[i]≠0:=by simpa [bne] using he
   have hxp:xpE p.vars xs[i]=exE xs[i]:=by unfold xpE; rw[if_pos he']
   simp -implicitDefEqProofs only[vQ,BD,↓reduceIte,jA];exact⟨by rw[hbad (by rw[hxp]; exact he'),hxp],hx1⟩
  have he':exE xs[i]=0:=by simpa [bne] using he
  have hxp:xpE p.vars xs[i]=plE p.vars xs[i]:=by unfold xpE; rw[if_neg (by simp [he'])]
  simp -implicitDefEqProofs only[vQ,BD,↓reduceIte,jA,enP,JH gE];refine(ABV G xs[i] hwi _).use ?_;simp -implicitDefEqProofs only[vQ,BD,↓reduceIte,enP,Y6,jR,ATY];refine C9 (fun ha=>?_) (fun ha=>?_)
  .have hpl:plE p.vars xs[i]=9:=by unfold plE; rw[if_pos ha]
   simp -implicitDefEqProofs only[vQ,BD,↓reduceIte];exact⟨by rw[hbad (by rw[hxp,hpl]; decide),hxp,hpl],hx1⟩
  simp -implicitDefEqProofs only[vQ,BD,↓reduceIte,jA,enP,JH gE];refine(AEM G xs[i] hwi _).use ?_;simp -implicitDefEqProofs only[vQ,BD,I5,↓reduceIte,jA,f1]
  have hnl:(nmL [2] [] (pre xs[i])).length<=1048576:=by
   have h1:=ACF [2] (pre xs[i]) [];have h2:=XM xs[i];simp at h1; omega
  refine(AV9 G (nmL [2] [] (pre xs[i])) (nm (nmL [2] [] (pre xs[i]))) 126 [.ptr eb 0 0] (fun n=>decide (plc p.vars n<0)) H1 (by omega) fun n _=>A2D G p n eb _ ge1 hl).use ?_;simp -implicitDefEqProofs only[vQ,↓reduceIte,AS0];refine C9 (fun hf=>?_) (fun hf=>?_)
  .have hpl:plE p.vars xs[i]=7:=by unfold plE; rw[ha,hf]; rfl
   simp -implicitDefEqProofs only[vQ,BD,↓reduceIte];exact⟨by rw[hbad (by rw[hxp,hpl]; decide),hxp,hpl],hx1⟩
  .have hpl:plE p.vars xs[i]=0:=by unfold plE; rw[ha,hf]; rfl
   simp -implicitDefEqProofs only[vQ,BD,↓reduceIte,jA,enP,f13,wrap_succ (show i<9223372036854775807 by omega)];refine⟨n-1,by omega,i+1,by omega,fun j hj hl=>?_,by trivial,by trivial,by trivial,rfl,ge1,hx1⟩;rcases jY j i with h1|h1
   .exact hb j h1 hl
   .obtain rfl:j=i:=by omega
    rw[hxp]; exact hpl
 .have hi':¬i<xs.length:=by simpa using hc
  simp -implicitDefEqProofs only[vQ,BD,↓reduceIte];exact⟨by rw[LP,PQ (xpE p.vars) xs fun j hj=>hb j (by omega) hj],hxx⟩
end
def P8 (l:List Vr)(i:Int):Bool:=decide (0<=i)&&(decide (i<l.length)&&(match l[i.toNat]? with|some v => !(v.mode==0)|none=>false))
def AD9 (x:Wg):Bool:=decide (x.lo<0)||decide (x.lo>x.hi)||decide (x.hi>65535)||decide (x.w<0)||decide (x.w>1000)
def dsE (l:List Vr)(ds:List Ds)(d:Ds):Int:=if P8 l d.var=true then if ds.any (fun x=>x.var==d.var)=true then 8 else if d.ws.length>16 then 2 else if d.ws.any AD9=true then 1 else 0 else 1
def dsI (l:List Vr)(ds:List Ds)(i:Nat):Int:=match ds[i]? with|some d=>dsE l (ds.take i) d|none=>0
def OH (l:List Vr)(ds:List Ds):Int:=PG (dsI l ds) (List.range ds.length)
theorem AHO {l:List Vr}{ds:List Ds}{i:Nat}(hi:i<ds.length):dsI l ds i=dsE l (ds.take i) ds[i]:=by unfold dsI; rw[jX hi]
theorem AD2 {l:List Vr}{ds:List Ds}{i:Nat}(hi:i<ds.length)(hb:∀j,j<i->dsI l ds j=0)(h:dsE l (ds.take i) ds[i]≠0):OH l ds=dsE l (ds.take i) ds[i]:=by
 have:=Q8 (dsI l ds) (List.range ds.length) i (by simpa using hi) (fun j hj=>by rw[List.getElem_range]; exact hb j hj) (by rw[List.getElem_range,AHO hi]; exact h);rw[List.getElem_range,AHO hi] at this;exact this
theorem ABO {l:List Vr}{ds:List Ds}(hb:∀j,j<ds.length->dsI l ds j=0):OH l ds=0 :=
 PQ _ _ fun j hj=>by rw[List.getElem_range]; exact hb j (by simpa using hj)
theorem WA {l:List Vr}{n:Nat}(hn:n<l.length):P8 l (n:Nat) = !(l[n].mode==0):=by
 unfold P8;rw[decide_eq_true (by omega),decide_eq_true (by omega),qV,jX hn]; rfl
theorem A5X (h:Hp):J6 Tryz.prog h 141=some (.ptr h.length 0 0,h++[.live 2 [[.int .i64 0,.sl .nil 0 []]]]):=JU (row:=[.int .i64 0,.sl .nil 0 []]) (by kernel_rfl)
theorem A4L (h:Hp)(v:Ds):FO Tryz.prog (h++[.live 2 [[.int .i64 0,.sl .nil 0 []]]]) 141 (.ptr h.length 0 0) (.agg (LD v))=some (h++[.live 2 [LD v]]):=by
 rw[ACZ (cs:=LD v) (row:=[.int .i64 0,.sl .nil 0 []]) rfl AIH (CU _ _) (by exact jP 2),OA];rfl
theorem A5W (h:Hp):J6 Tryz.prog h 143=some (.ptr h.length 0 0,h++[.live 4 [[.int .i64 0,.int .i64 0,.int .i64 0,.bool false]]]):=JU (row:=[.int .i64 0,.int .i64 0,.int .i64 0,.bool false]) (by kernel_rfl)
theorem A4K (h:Hp)(v:Wg):FO Tryz.prog (h++[.live 4 [[.int .i64 0,.int .i64 0,.int .i64 0,.bool false]]]) 143 (.ptr h.length 0 0) (.agg (KP v))=some (h++[.live 4 [KP v]]):=by
 rw[ACZ (cs:=KP v) (row:=[.int .i64 0,.int .i64 0,.int .i64 0,.bool false]) rfl AM9 (CU _ _) (by exact jP 4),OA];rfl
theorem A4B {l:List Ds}{h:Hp}{m:SM}{i:Nat}(hi:i<=l.length):∃m',MK Tryz.prog h 24 (.sl m 2 (l.map LD)) none (some (.int .i64 (i:Nat))) none=some (.sl m' 2 ((l.take i).map LD)) :=
 ⟨AP5 m i (l.map LD).length,by rw[ANB A39 AIH (by rw[jR]; exact hi),List.map_take]⟩
section
variable (G:Nat->AV)
theorem VF (p:Pr)(i:Int)(_:p.vars.length<=1048576)(h:Hp):PCall (En G) 127 [.agg (EE p),.int .i64 i] h (.bool (P8 p.vars i)):=by
 refine ACalls.pure0 rfl ?_;refine acN Tryz.func127 rfl ?_;show awp _ _ _ _ _ (EK _ [.tmp 4] _);have l0:DF Tryz.prog (h++[ABlk.live 5 [EE p]]) 22 (.ptr h.length 0 0)=some (.sl p.vm 4 (p.vars.map FI)):=by rw[DJ TU (CU _ _) (row:=EE p) rfl]; rfl
 simp -implicitDefEqProofs only[vQ,CV,BD,↓reduceIte,jA,enP,UN];cases b1:decide (i≥0)
 .simp -implicitDefEqProofs only[vQ,CV,BD,EY,↓reduceIte,jA,b1]
  refine⟨?_,_,rfl⟩;unfold P8; rw[show decide (0<=i)=false from b1]; rfl
 have h0:0<=i:=by simpa using b1
 obtain⟨n,rfl⟩:=qM h0;simp -implicitDefEqProofs only[vQ,CV,BD,↓reduceIte,jA,enP,RZ,KC,b1,l0,jR];cases b2:decide (((n:Nat):Int)<((p.vars.length:Nat):Int))
 .simp -implicitDefEqProofs only[vQ,CV,BD,EY,↓reduceIte,jA,b2]
  refine⟨?_,_,rfl⟩;unfold P8; rw[b2]; simp
 have hn:n<p.vars.length:=by simpa using b2
 have l2:DF Tryz.prog (h++[ABlk.live 5 [EE p]]) 3 (.fptr 4 (p.vars.map FI) n 2)=some (.int .i64 p.vars[n].mode):=by rw[FX ag3 hn]; rfl
 simp -implicitDefEqProofs only[vQ,CV,BD,↓reduceIte,jA,enP,QP,KC,NC,b2,l0,EZ hn,l2,bne];exact⟨by rw[WA hn],_,rfl⟩
theorem A2C (x d:Ds)(c:Nat)(h:Hp)(hc:h[c]?=some (.live 2 [LD d])):PCall (En G) 129 ([.agg (LD x)]++[.ptr c 0 0]) h (.bool (x.var==d.var)):=by
 refine ACalls.pure0 rfl ?_;refine acN Tryz.func129 rfl ?_;show awp _ _ _ _ _ (EK _ [.tmp 3] _);have hc':(h++[ABlk.live 2 [LD x]])[c]?=_:=BO hc;have l0:DF Tryz.prog (h++[ABlk.live 2 [LD x]]) 3 (.ptr h.length 0 0)=some (.int .i64 x.var):=by rw[DJ ag3 (CU _ _) (row:=LD x) rfl]; rfl
 have l1:DF Tryz.prog (h++[ABlk.live 2 [LD x]]) 3 (.ptr c 0 0)=some (.int .i64 d.var):=by rw[DJ ag3 hc' (row:=LD d) rfl]; rfl
 simp -implicitDefEqProofs only[vQ,BD,qA,qJ,↓reduceIte,jA,enP,WL,bxD,l0,l1];exact⟨trivial,_,rfl⟩
theorem A2A (x:Wg)(h:Hp):PCall (En G) 180 ([.agg (KP x)]++[]) h (.bool (AD9 x)):=by
 refine ACalls.pure0 rfl ?_;refine acN Tryz.func180 rfl ?_;show awp _ _ _ _ _ (EK _ [.tmp 2] _);have l0:DF Tryz.prog (h++[ABlk.live 4 [KP x]]) 3 (.ptr h.length 0 0)=some (.int .i64 x.lo):=by rw[DJ ag3 (CU _ _) (row:=KP x) rfl]; rfl
 have l1:DF Tryz.prog (h++[ABlk.live 4 [KP x]]) 3 (.ptr h.length 0 1)=some (.int .i64 x.hi):=by rw[DJ ag3 (CU _ _) (row:=KP x) rfl]; rfl
 have l2:DF Tryz.prog (h++[ABlk.live 4 [KP x]]) 3 (.ptr h.length 0 2)=some (.int .i64 x.w):=by rw[DJ ag3 (CU _ _) (row:=KP x) rfl]; rfl
 simp -implicitDefEqProofs only[vQ,BD,↓reduceIte,jA,enP,PZ,A5M];unfold AD9;cases b1:decide (x.lo<0)
 case true =>
  simp -implicitDefEqProofs only[vQ,Bool.true_or,CV,BD,EY,↓reduceIte,jA,enP,l0,b1];exact⟨trivial,_,rfl⟩
 cases b2:decide (x.lo>x.hi)
 case true =>
  simp -implicitDefEqProofs only[vQ,qP,Bool.true_or,CV,BD,EY,↓reduceIte,jA,enP,PZ,SN,l0,l1,b1,b2];exact⟨trivial,_,rfl⟩
 cases b3:decide (x.hi>65535)
 case true =>
  simp -implicitDefEqProofs only[vQ,jV,qP,Bool.true_or,CV,BD,EY,↓reduceIte,jA,enP,PZ,SN,l0,l1,b1,b2,b3];exact⟨trivial,_,rfl⟩
 cases b4:decide (x.w<0)
 case true =>
  simp -implicitDefEqProofs only[vQ,jV,qP,Bool.true_or,CV,BD,EY,↓reduceIte,jA,enP,PZ,SN,ACJ,l0,l1,l2,b1,b2,b3,b4];exact⟨trivial,_,rfl⟩
 cases b5:decide (x.w>1000)
 all_goals
  simp -implicitDefEqProofs only[vQ,jV,qP,CV,BD,↓reduceIte,jA,enP,PZ,SN,ACJ,l0,l1,l2,b1,b2,b3,b4,b5];exact⟨trivial,_,rfl⟩
theorem AGJ (xs:List Wg)(m:SM)(hl:xs.length<=1048576)(h:Hp):PCall (En G) 130 [.sl m 4 (xs.map KP)] h (.bool (!(xs.any AD9))):=by
 refine acN Tryz.func130 rfl ?_;show awp _ _ _ _ _ (EK _ [.tmp 2] _);simp -implicitDefEqProofs only[vQ,BD,↓reduceIte,jA,enX,enP];refine(AZR G xs m 180 [] AD9 h (by omega) fun x _=>A2A G x h).use ?_;simp -implicitDefEqProofs only[vQ,BD,↓reduceIte];exact⟨trivial,trivial⟩
theorem AL4 (p:Pr)(hl:p.vars.length<=1048576)(hd:p.dists.length<=1048576)(hw:∀d∈p.dists,d.ws.length<=1048576)(h:Hp):PCall (En G) 64 [.agg (EE p)] h (.int .i64 (OH p.vars p.dists)):=by
 refine ACalls.pure0 rfl ?_;refine acN Tryz.func64 rfl ?_;show awp _ _ _ _ _ (EK _ [.tmp 2] _);have ge:=CU h (ABlk.live 5 [EE p]);have hxx:ext h (h++[ABlk.live 5 [EE p]]):=(ext.rfl' h).app _;simp -implicitDefEqProofs only[vQ,BD,↓reduceIte,jA,enP,ALX,UN];generalize h++[ABlk.live 5 [EE p]]=H1 at ge hxx|-;generalize h.length=eb at ge|-;have l3:DF Tryz.prog H1 24 (.ptr eb 0 3)=some (.sl p.dm 2 (p.dists.map LD)):=by rw[DJ A0G ge (row:=EE p) rfl]; rfl
 simp -implicitDefEqProofs only[vQ,BD,↓reduceIte,enP,AZK,l3,jR];refine D7 (fun n F H=>∃i,n+i=p.dists.length∧(∀(j:Nat),j<i->dsI p.vars p.dists j=0)∧F 1=.ptr eb 0 0∧F 6=.sl p.dm 2 (p.dists.map LD)∧F 7=.int .i64 (p.dists.length:Nat)∧F 8=.int .i64 (i:Nat)∧H[eb]?=some (.live 5 [EE p])∧ext h H) p.dists.length ⟨0,by simp,fun j hj=>absurd hj (by omega),by simp -implicitDefEqProofs only[AA,↓reduceIte,jA],by simp -implicitDefEqProofs only[AA,↓reduceIte,jA],by simp -implicitDefEqProofs only[AA,↓reduceIte,jA],by simp -implicitDefEqProofs only[AA,↓reduceIte]; rfl,ge,hxx⟩ ?_;clear ge hxx l3;rintro n F H ⟨i,hi,hb,f1,f6,f7,f8,ge,hxx⟩;simp -implicitDefEqProofs only[vQ,BD,↓reduceIte,enP,f7,f8];refine C9 (fun hc=>?_) (fun hc=>?_)
 .have hi':i<p.dists.length:=by simpa using hc
  have hwi:=hw _ (zC hi');have hbad:=AD2 hi' hb;have hat:=AHO (l:=p.vars) hi';have ge1:(H++[ABlk.live 2 [LD p.dists[i]]])[eb]?=_:=BO ge;have hx1:ext h (H++[ABlk.live 2 [LD p.dists[i]]]):=hxx.app _;have gE:=CU H (ABlk.live 2 [LD p.dists[i]]);simp -implicitDefEqProofs only[vQ,BD,↓reduceIte,jA,enP,AG2,jO,f6,f8,EZ hi',GM AYP AIH ADY hi',A5X,A4L];generalize H++[ABlk.live 2 [LD p.dists[i]]]=H1 at ge1 hx1 gE|-;have lp:DF Tryz.prog H1 27 (.ptr eb 0 0)=some (.agg (EE p)):=by rw[GV UY TF ge1 (row:=EE p) rfl (by rw[JE]; exact jP 5)]; rfl
  have l3:DF Tryz.prog H1 24 (.ptr eb 0 3)=some (.sl p.dm 2 (p.dists.map LD)):=by rw[DJ A0G ge1 (row:=EE p) rfl]; rfl
  have d0:DF Tryz.prog H1 3 (.ptr H.length 0 0)=some (.int .i64 p.dists[i].var):=by rw[DJ ag3 gE (row:=LD p.dists[i]) rfl]; rfl
  have d1:DF Tryz.prog H1 139 (.ptr H.length 0 1)=some (.sl p.dists[i].wm 4 (p.dists[i].ws.map KP)):=by rw[DJ AYQ gE (row:=LD p.dists[i]) rfl]; rfl
  obtain⟨m',ht⟩:=A4B (h:=H1) (m:=p.dm) (Nat.le_of_lt hi');simp -implicitDefEqProofs only[vQ,BD,↓reduceIte,jA,enP,WL,f1,lp,d0];refine(VF G p _ hl _).use ?_;cases b1:P8 p.vars p.dists[i].var
  .have he:dsE p.vars (p.dists.take i) p.dists[i]=1:=by unfold dsE; rw[b1]; rfl
   simp -implicitDefEqProofs only[vQ,BD,↓reduceIte];exact⟨by rw[hbad (by rw[he]; decide),he],hx1⟩
  simp -implicitDefEqProofs only[vQ,Option.map_some,Option.map_none,BD,I5,OV,↓reduceIte,jA,jZ,enP,ALX,f1,l3,ht];refine(ASP G (p.dists.take i) m' 129 [.ptr H.length 0 0] (fun x=>x.var==p.dists[i].var) H1 (by rw[zX]; omega) fun x _=>A2C G x p.dists[i] _ _ gE).use ?_;cases b2:(p.dists.take i).any fun x=>x.var==p.dists[i].var
  case true =>
   have he:dsE p.vars (p.dists.take i) p.dists[i]=8:=by unfold dsE; rw[b1,b2]; rfl
   simp -implicitDefEqProofs only[vQ,BD,↓reduceIte];exact⟨by rw[hbad (by rw[he]; decide),he],hx1⟩
  simp -implicitDefEqProofs only[vQ,BD,↓reduceIte,jA,enP,ANW,ZK,d1,jR];refine C9 (fun b3=>?_) (fun b3=>?_)
  .have he:dsE p.vars (p.dists.take i) p.dists[i]=2:=by unfold dsE; rw[b1,b2,if_pos rfl,if_neg (by decide),if_pos (by simp at b3; omega)]
   simp -implicitDefEqProofs only[vQ,BD,↓reduceIte];exact⟨by rw[hbad (by rw[he]; decide),he],hx1⟩
  simp -implicitDefEqProofs only[vQ,BD,↓reduceIte,jA,enP,ZK,d1];refine(AGJ G p.dists[i].ws p.dists[i].wm hwi _).use ?_;cases b4:p.dists[i].ws.any AD9
  case true =>
   have he:dsE p.vars (p.dists.take i) p.dists[i]=1:=by unfold dsE; rw[b1,b2,if_pos rfl,if_neg (by decide),if_neg (by simp at b3; omega),b4]; rfl
   simp -implicitDefEqProofs only[vQ,BD,↓reduceIte,jZ];exact⟨by rw[hbad (by rw[he]; decide),he],hx1⟩
  have he:dsE p.vars (p.dists.take i) p.dists[i]=0:=by unfold dsE; rw[b1,b2,if_pos rfl,if_neg (by decide),if_neg (by simp at b3; omega),b4]; rfl
  simp -implicitDefEqProofs only[vQ,BD,↓reduceIte,jA,jZ,enP,f8,wrap_succ (show i<9223372036854775807 by omega)];refine⟨n-1,by omega,i+1,by omega,fun j hj=>?_,by trivial,by trivial,by trivial,rfl,ge1,hx1⟩;rcases jY j i with h1|h1
  .exact hb j h1
  .obtain rfl:j=i:=by omega
   rw[hat,he]
 .have hi':¬i<p.dists.length:=by simpa using hc
  simp -implicitDefEqProofs only[vQ,BD,↓reduceIte];exact⟨by rw[ABO fun j hj=>hb j (by omega)],hxx⟩
end
section
variable (G:Nat->AV)
set_option maxHeartbeats 1000000 in
theorem AP2 (l:List Vr)(m:SM)(ds:List Ds)(s:SM)(hl:l.length<=1048576)(hd:ds.length<=1048576)(hw:∀d∈ds,d.ws.length<=1048576)(h:Hp):PCall (En G) 52 [.sl m 4 (l.map FI),.sl s 2 (ds.map LD)] h (.int .i64 (OH l ds)):=by
 refine ACalls.pure0 rfl ?_;refine acN Tryz.func52 rfl ?_;show awp _ _ _ _ _ (EK _ [.tmp 4] _);simp -implicitDefEqProofs only[vQ,BD,enP];refine D7 (fun n F H=>∃i,n+i=ds.length∧(∀(j:Nat),j<i->dsI l ds j=0)∧F 0=.sl m 4 (l.map FI)∧F 1=.sl s 2 (ds.map LD)∧F 5=.int .i64 (i:Nat)∧ext h H) ds.length ⟨0,by simp,fun j hj=>absurd hj (by omega),by simp -implicitDefEqProofs only[vQ,↓reduceIte,jA],by simp -implicitDefEqProofs only[vQ,↓reduceIte,jA],by simp -implicitDefEqProofs only[AA,↓reduceIte]; rfl,ext.rfl' h⟩ ?_;rintro n F H ⟨i,hi,hb,f0,f1,f5,hxx⟩;simp -implicitDefEqProofs only[vQ,BD,↓reduceIte,jA,enP,AZK,f1,f5,jR];refine C9 (fun hc=>?_) (fun hc=>?_)
 .have hi':i<ds.length:=by simpa using hc
  have hwi:=hw _ (zC hi');have hbad:=AD2 hi' hb;have hat:=AHO (l:=l) hi';have d0:∀ {k:Nat} (hk:k<ds.length) (H:Hp),DF Tryz.prog H 3 (.fptr 2 (ds.map LD) k 0)=some (.int .i64 ds[k].var):=fun hk H=>by rw[FX ag3 hk]; rfl
  have d1:∀H:Hp,DF Tryz.prog H 139 (.fptr 2 (ds.map LD) i 1)=some (.sl ds[i].wm 4 (ds[i].ws.map KP)):=fun H=>by rw[FX AYQ hi']; rfl
  simp -implicitDefEqProofs only[vQ,CV,BD,↓reduceIte,jA,enP,AG2,WL,f0,f1,f5,EZ hi',d0 hi'];refine RU (fun F' H'=>F' 0=.sl m 4 (l.map FI)∧F' 1=.sl s 2 (ds.map LD)∧F' 5=.int .i64 (i:Nat)∧F' 42=.bool (!P8 l ds[i].var)∧H'=H) ?_ ?_
  .cases b1:decide (ds[i].var<0)
   case true =>
    simp -implicitDefEqProofs only[vQ,CV,BD,EY,↓reduceIte,jA,b1,f0,f1,f5];refine⟨trivial,trivial,trivial,?_,trivial⟩;have:P8 l ds[i].var=false:=by unfold P8; rw[decide_eq_false (by simp at b1; omega)]; rfl
    rw[this]; rfl
   have h0:0<=ds[i].var:=by simpa using b1
   obtain⟨k,hk⟩:=qM h0;rw[hk] at b1|-;have d0':=d0 hi' H;rw[hk] at d0';cases b2:decide (((k:Nat):Int)≥((l.length:Nat):Int))
   case true =>
    simp -implicitDefEqProofs only[vQ,CV,BD,EY,↓reduceIte,jA,enP,RZ,AG2,WL,b1,b2,f0,f1,f5,EZ hi',d0',jR];refine⟨trivial,trivial,trivial,?_,trivial⟩;have:P8 l ((k:Nat):Int)=false:=by unfold P8; rw[decide_eq_false (p:=((k:Nat):Int)<(l.length:Int)) (by simp at b2; omega)]; simp
    rw[this]; rfl
   have hk':k<l.length:=by simp at b2; omega
   have l2:DF Tryz.prog H 3 (.fptr 4 (l.map FI) k 2)=some (.int .i64 l[k].mode):=by rw[FX ag3 hk']; rfl
   simp -implicitDefEqProofs only[vQ,CV,BD,↓reduceIte,jA,enP,QP,RZ,AG2,NC,WL,b1,b2,f0,f1,f5,EZ hi',d0',jR,EZ hk',l2];exact⟨trivial,trivial,trivial,by rw[WA hk',Bool.not_not],trivial⟩
  clear f0 f1 f5;rintro F H0 ⟨f0,f1,f5,f42,rfl⟩;simp -implicitDefEqProofs only[vQ,f42];cases b1:P8 l ds[i].var
  .have he:dsE l (ds.take i) ds[i]=1:=by unfold dsE; rw[b1]; rfl
   simp -implicitDefEqProofs only[vQ,BD,↓reduceIte];exact⟨by rw[hbad (by rw[he]; decide),he],hxx⟩
  simp -implicitDefEqProofs only[vQ,BD,jZ];refine GI 2 (fun F' H'=>F' 0=.sl m 4 (l.map FI)∧F' 1=.sl s 2 (ds.map LD)∧F' 5=.int .i64 (i:Nat)∧H'=H0∧((ds.take i).any fun x=>x.var==ds[i].var)=false) (fun F' H'=>F' 4=.int .i64 (OH l ds)∧H'=H0) ?_ ?_ ?_
  .refine D7 (fun n' F' H'=>∃k,n'+k=i∧(∀(j:Nat) (hj:j<k) (hl:j<ds.length),(ds[j].var==ds[i].var)=false)∧F' 0=.sl m 4 (l.map FI)∧F' 1=.sl s 2 (ds.map LD)∧F' 5=.int .i64 (i:Nat)∧F' 6=.int .i64 (k:Nat)∧H'=H0) i ⟨0,by simp,fun j hj=>absurd hj (by omega),by simp -implicitDefEqProofs only[AA,↓reduceIte,jA,f0],by simp -implicitDefEqProofs only[AA,↓reduceIte,jA,f1],by simp -implicitDefEqProofs only[AA,↓reduceIte,jA,f5],by simp -implicitDefEqProofs only[AA,↓reduceIte]; rfl,rfl⟩ ?_
   clear f0 f1 f5 f42;rintro n' F H ⟨k,hk,hbk,f0,f1,f5,f6,rfl⟩;simp -implicitDefEqProofs only[vQ,BD,↓reduceIte,jA,enP,f5,f6];refine C9 (fun hc=>?_) (fun hc=>?_)
   .have hk':k<i:=by simpa using hc
    have hk2:k<ds.length:=by omega
    simp -implicitDefEqProofs only[vQ];refine GL (by kernel_rfl) ?_;simp -implicitDefEqProofs only[vQ,↓reduceIte,jA,Nat.reduceAdd,enP,AG2,WL,f1,f5,f6,EZ hk2,EZ hi',d0 hk2,d0 hi'];refine C9 (fun he=>?_) (fun he=>?_)
    .have hany:((ds.take i).any fun x=>x.var==ds[i].var)=true:=wG.2 ⟨ds[k],by
      have:(ds.take i)[k]'(by rw[zX]; omega)=ds[k]:=List.getElem_take
      rw[<-this]; exact zC _,he⟩
     have hz:dsE l (ds.take i) ds[i]=8:=by unfold dsE; rw[b1,hany]; rfl
     simp -implicitDefEqProofs only[vQ,BD,↓reduceIte];exact⟨by rw[hbad (by rw[hz]; decide),hz],trivial⟩
    .simp -implicitDefEqProofs only[vQ,BD,↓reduceIte,jA,enP,f6,wrap_succ (show k<9223372036854775807 by omega)]
     refine⟨n'-1,by omega,k+1,by omega,fun j hj hl=>?_,by trivial,by trivial,by trivial,rfl,trivial⟩;rcases jY j k with h1|h1
     .exact hbk j h1 hl
     .obtain rfl:j=k:=by omega
      exact he
   .have hk':¬k<i:=by simpa using hc
    simp -implicitDefEqProofs only[vQ,↓reduceIte,jA];refine⟨f0,f1,f5,trivial,?_⟩;rw[List.any_eq_false];intro x hx;obtain⟨j,hj,rfl⟩:=qW hx;rw[zX] at hj;rw[List.getElem_take,hbk j (by omega) (by omega)]; decide
  .rintro F' H' ⟨g0,g1,g5,rfl,b2⟩
   simp -implicitDefEqProofs only[vQ,BD,↓reduceIte,jA,enP,AG2,ANW,ZK,g1,g5,EZ hi',d1,jR];refine C9 (fun b3=>?_) (fun b3=>?_)
   .have he:dsE l (ds.take i) ds[i]=2:=by unfold dsE; rw[b1,b2,if_pos rfl,if_neg (by decide),if_pos (by simp at b3; omega)]
    simp -implicitDefEqProofs only[vQ,BD,↓reduceIte];exact⟨by rw[hbad (by rw[he]; decide),he],hxx⟩
   simp -implicitDefEqProofs only[vQ,BD];refine GI 4 (fun F2 H2=>F2 0=.sl m 4 (l.map FI)∧F2 1=.sl s 2 (ds.map LD)∧F2 5=.int .i64 (i:Nat)∧ext h H2∧ds[i].ws.any AD9=false) (fun F2 H2=>F2 4=.int .i64 (OH l ds)∧ext h H2) ?_ ?_ ?_
   .refine D7 (fun n' F2 H2=>∃k,n'+k=ds[i].ws.length∧(∀(j:Nat) (hj:j<k) (hl:j<ds[i].ws.length),AD9 ds[i].ws[j]=false)∧F2 0=.sl m 4 (l.map FI)∧F2 1=.sl s 2 (ds.map LD)∧F2 5=.int .i64 (i:Nat)∧F2 7=.int .i64 (k:Nat)∧ext h H2) ds[i].ws.length ⟨0,by simp,fun j hj=>absurd hj (by omega),by simp -implicitDefEqProofs only[AA,↓reduceIte,jA,g0],by simp -implicitDefEqProofs only[AA,↓reduceIte,jA,g1],by simp -implicitDefEqProofs only[AA,↓reduceIte,jA,g5],by simp -implicitDefEqProofs only[AA,↓reduceIte]; rfl,hxx⟩ ?_
    clear f0 f1 f5 f42 g0 g1 g5 hxx;rintro n' F H ⟨k,hk,hbk,f0,f1,f5,f7,hxx⟩;simp -implicitDefEqProofs only[vQ,BD,↓reduceIte,jA,enP,AG2,ANW,ZK,f1,f5,f7,EZ hi',d1,jR];refine C9 (fun hc=>?_) (fun hc=>?_)
    .have hk':k<ds[i].ws.length:=by simpa using hc
     have hx1:ext h (H++[ABlk.live 4 [KP ds[i].ws[k]]]):=hxx.app _;have gE:=CU H (ABlk.live 4 [KP ds[i].ws[k]]);simp -implicitDefEqProofs only[vQ,BD,↓reduceIte,jA,enP,AG2,AX6,ZK,PZ,jO,f1,f5,f7,EZ hi',d1,EZ hk',GM AYO AM9 AA0 hk',A5W,A4K];generalize H++[ABlk.live 4 [KP ds[i].ws[k]]]=H1 at hx1 gE|-;generalize hx:ds[i].ws[k]=x at gE;have l0:DF Tryz.prog H1 3 (.ptr H.length 0 0)=some (.int .i64 x.lo):=by rw[DJ ag3 gE (row:=KP x) rfl]; rfl
     have l1:DF Tryz.prog H1 3 (.ptr H.length 0 1)=some (.int .i64 x.hi):=by rw[DJ ag3 gE (row:=KP x) rfl]; rfl
     have l2:DF Tryz.prog H1 3 (.ptr H.length 0 2)=some (.int .i64 x.w):=by rw[DJ ag3 gE (row:=KP x) rfl]; rfl
     simp -implicitDefEqProofs only[vQ,CV,BD,↓reduceIte,enP,l0];refine RU (fun F' H'=>F' 0=.sl m 4 (l.map FI)∧F' 1=.sl s 2 (ds.map LD)∧F' 5=.int .i64 (i:Nat)∧F' 7=.int .i64 (k:Nat)∧F' 108=.bool (AD9 x)∧H'=H1) ?_ ?_
     .unfold AD9
      cases b1:decide (x.lo<0)
      case true =>
       simp -implicitDefEqProofs only[vQ,Bool.true_or,CV,BD,EY,↓reduceIte,jA,b1,f0,f1,f5,f7];exact⟨trivial,trivial,trivial,trivial,trivial,trivial⟩
      cases b2:decide (x.lo>x.hi)
      case true =>
       simp -implicitDefEqProofs only[vQ,qP,Bool.true_or,CV,BD,EY,↓reduceIte,jA,enP,PZ,SN,l0,l1,b1,b2,f0,f1,f5,f7];exact⟨trivial,trivial,trivial,trivial,trivial,trivial⟩
      cases b3:decide (x.hi>65535)
      case true =>
       simp -implicitDefEqProofs only[vQ,jV,qP,Bool.true_or,CV,BD,EY,↓reduceIte,jA,enP,PZ,SN,l0,l1,b1,b2,b3,f0,f1,f5,f7];exact⟨trivial,trivial,trivial,trivial,trivial,trivial⟩
      cases b4:decide (x.w<0)
      case true =>
       simp -implicitDefEqProofs only[vQ,jV,qP,Bool.true_or,CV,BD,EY,↓reduceIte,jA,enP,PZ,SN,ACJ,l0,l1,l2,b1,b2,b3,b4,f0,f1,f5,f7];exact⟨trivial,trivial,trivial,trivial,trivial,trivial⟩
      cases b5:decide (x.w>1000)
      all_goals
       simp -implicitDefEqProofs only[vQ,jV,qP,CV,BD,↓reduceIte,jA,enP,PZ,SN,ACJ,l0,l1,l2,b1,b2,b3,b4,b5,f0,f1,f5,f7];exact⟨trivial,trivial,trivial,trivial,trivial,trivial⟩
     clear f0 f1 f5 f7;rintro F H2 ⟨f0,f1,f5,f7,f108,rfl⟩;simp -implicitDefEqProofs only[vQ,f108];refine C9 (fun b4=>?_) (fun b4=>?_)
     .have hany:ds[i].ws.any AD9=true:=wG.2 ⟨x,by rw[<-hx]; exact zC _,b4⟩
      have he:dsE l (ds.take i) ds[i]=1:=by unfold dsE; rw[b1,b2,if_pos rfl,if_neg (by decide),if_neg (by simp at b3; omega),hany]; rfl
      simp -implicitDefEqProofs only[vQ,BD,↓reduceIte];exact⟨by rw[hbad (by rw[he]; decide),he],hx1⟩
     .simp -implicitDefEqProofs only[vQ,BD,↓reduceIte,jA,enP,f7,wrap_succ (show k<9223372036854775807 by omega)]
      refine⟨n'-1,by omega,k+1,by omega,fun j hj hl=>?_,by trivial,by trivial,by trivial,rfl,hx1⟩;rcases jY j k with h1|h1
      .exact hbk j h1 hl
      .obtain rfl:j=k:=by omega
       rw[hx]; exact b4
    .have hk':¬k<ds[i].ws.length:=by simpa using hc
     simp -implicitDefEqProofs only[vQ,↓reduceIte,jA];refine⟨f0,f1,f5,hxx,?_⟩;rw[List.any_eq_false];intro x hx;obtain⟨j,hj,rfl⟩:=qW hx;rw[hbk j (by omega) hj]; decide
   .rintro F2 H2 ⟨g0,g1,g5,hx2,b4⟩
    have he:dsE l (ds.take i) ds[i]=0:=by unfold dsE; rw[b1,b2,if_pos rfl,if_neg (by decide),if_neg (by simp at b3; omega),b4]; rfl
    simp -implicitDefEqProofs only[vQ,BD,↓reduceIte,jA,enP,g5,wrap_succ (show i<9223372036854775807 by omega)];refine⟨n-1,by omega,i+1,by omega,fun j hj=>?_,by first|exact g0|trivial,by first|exact g1|trivial,rfl,hx2⟩;rcases jY j i with h1|h1
    .exact hb j h1
    .obtain rfl:j=i:=by omega
     rw[hat,he]
   .rintro F2 H2 ⟨g4,hx2⟩
    simp -implicitDefEqProofs only[vQ,g4];exact⟨trivial,hx2⟩
  .rintro F' H' ⟨g4,rfl⟩
   simp -implicitDefEqProofs only[vQ,g4];exact⟨trivial,hxx⟩
 .have hi':¬i<ds.length:=by simpa using hc
  simp -implicitDefEqProofs only[vQ,BD,↓reduceIte];exact⟨by rw[ABO fun j hj=>hb j (by omega)],hxx⟩
end
def flG (gs:List Gp):List Int:=gs.flatMap Gp.l
theorem ZI {gs:List Gp}{i:Nat}(hi:i<gs.length):flG (gs.take (i+1))=flG (gs.take i)++gs[i].l:=by
 unfold flG; rw[qK hi,List.flatMap_append]; simp
theorem TP {gs:List Gp}{i j:Nat}(hi:i<gs.length)(hj:j<gs[i].l.length):flG gs=(flG (gs.take i)++gs[i].l.take j)++gs[i].l[j]::(gs[i].l.drop (j+1)++flG (gs.drop (i+1))):=by
 have h1:gs=gs.take i++gs[i]::gs.drop (i+1):=by rw[<-zU hi,wK]
 have h2:flG gs=flG (gs.take i)++(gs[i].l++flG (gs.drop (i+1))):=by
  unfold flG
  conv=>lhs; rw[h1]
  rw[List.flatMap_append,List.flatMap_cons]
 have h3:gs[i].l=gs[i].l.take j++gs[i].l[j]::gs[i].l.drop (j+1):=by rw[<-zU hj,wK]
 have h4:gs[i].l++flG (gs.drop (i+1))=(gs[i].l.take j++gs[i].l[j]::gs[i].l.drop (j+1))++flG (gs.drop (i+1)):=by rw[<-h3]
 rw[h2,h4];simp only[zJ,qJ]
def gOK (l:List Vr)(gs:List Gp):Bool:=decide ((∀g∈gs,g.l≠[])∧(∀x∈flG gs,0<=x∧x<l.length)∧∀i:Fin l.length,(flG gs).count ((i.1:Nat):Int)=if l[i.1].mode=0 then 0 else 1)
theorem AN2 {l:List Vr}{gs:List Gp}{g:Gp}(hg:g∈gs)(h:g.l=[]):gOK l gs=false:=decide_eq_false fun⟨h1,_⟩=>h1 g hg h
theorem AG9 {l:List Vr}{gs:List Gp}{x:Int}(hx:x∈flG gs)(h:¬(0<=x∧x<l.length)):gOK l gs=false:=decide_eq_false fun⟨_,h1,_⟩=>h (h1 x hx)
theorem ZC {l:List Vr}{gs:List Gp}{i:Nat}(hi:i<l.length)(h:(flG gs).count ((i:Nat):Int)≠if l[i].mode=0 then 0 else 1):gOK l gs=false:=decide_eq_false fun⟨_,_,h1⟩=>h (h1 ⟨i,hi⟩)
theorem AFI {l:List Vr}{x:Int}(h:P8 l x=true):∃k,∃hk:k<l.length,x=(k:Nat)∧¬l[k].mode=0:=by
 unfold P8 at h;simp only[Bool.and_eq_true,decide_eq_true_eq] at h;obtain⟨h0,h1,h2⟩:=h;have hk:x.toNat<l.length:=by omega
 rw[jX hk] at h2;exact⟨x.toNat,hk,by omega,by simpa using h2⟩
theorem AWE {l:List Vr}{gs:List Gp}{x:Int}(hx:x∈flG gs)(h:P8 l x=false):gOK l gs=false:=by
 by_cases hr:0<=x∧x<l.length
 .obtain⟨k,rfl⟩:=qM hr.1
  have hk:k<l.length:=by omega
  rw[WA hk] at h;refine ZC hk ?_;rw[if_pos (by simpa using h)];have:=List.count_pos_iff.2 hx;omega
 .exact AG9 hx hr
def bR (done:List Int)(n:Nat):List (List AV):=(List.range n).map fun i=>[AV.bool (decide (((i:Nat):Int)∈done))]
def cR (done:List Int)(n:Nat):List (List AV):=(List.range n).map fun i=>[AV.int .i64 ((done.count ((i:Nat):Int):Nat):Int)]
theorem ABA (done:List Int)(n:Nat):(bR done n).length=n:=by simp [bR]
theorem X8 (done:List Int)(n:Nat):(cR done n).length=n:=by simp [cR]
theorem YA (done:List Int){n i:Nat}(hi:i<n):(bR done n)[i]?=some [AV.bool (decide (((i:Nat):Int)∈done))]:=by simp [bR,hi]
theorem VS (done:List Int){n i:Nat}(hi:i<n):(cR done n)[i]?=some [AV.int .i64 ((done.count ((i:Nat):Int):Nat):Int)]:=by simp [cR,hi]
theorem A0D (done:List Int){n k:Nat}(hk:k<n):(bR done n).set k [.bool true]=bR (done++[(k:Int)]) n:=by
 apply List.ext_getElem?;intro i;rw[zI];by_cases hi:i<n
 .by_cases e:k=i
  .subst e
   rw[if_pos rfl,if_pos (by rw[ABA]; exact hi),YA _ hi];simp
  .rw[if_neg e,YA _ hi,YA _ hi]
   congr 3;simp;rintro h; omega
 .rw[zO (by rw[ABA]; omega)]
  split
  .rw[if_neg (by rw[ABA]; omega),zO (by rw[ABA]; omega)]
  .rw[zO (by rw[ABA]; omega)]
theorem AZ8 (done:List Int){n k:Nat}(hk:k<n):(cR done n).set k [.int .i64 ((done.count ((k:Nat):Int)+1:Nat):Int)]=cR (done++[(k:Int)]) n:=by
 apply List.ext_getElem?;intro i;rw[zI];by_cases hi:i<n
 .by_cases e:k=i
  .subst e
   rw[if_pos rfl,if_pos (by rw[X8]; exact hi),VS _ hi,List.count_append];simp
  .rw[if_neg e,VS _ hi,VS _ hi,List.count_append]
   have:((k:Nat):Int)≠((i:Nat):Int):=by omega
   simp [this]
 .rw[zO (by rw[X8]; omega)]
  split
  .rw[if_neg (by rw[X8]; omega),zO (by rw[X8]; omega)]
  .rw[zO (by rw[X8]; omega)]
theorem A1R (h:Hp)(n:Nat)(hn:n<=1048576):IX Tryz.prog true h 55 (.int .i64 (n:Int)) (.int .i64 (n:Int))=some (.own h.length 0 n,h++[.live 1 (bR [] n)]):=by
 have hz:N9 Tryz.prog 4=some [.bool false]:=by kernel_rfl
 have hr:room n 1:=OX (by omega) (by omega);unfold IX;simp only[A38,sz4,A5L,hz,qV];rw[if_pos ⟨by omega,Int.le_refl _,hr,rfl⟩]
 have:bR [] n=jJ n [.bool false]:=by
  apply List.ext_getElem?;intro i;by_cases hi:i<n
  .rw[YA _ hi,List.getElem?_replicate,if_pos hi]; simp
  .rw[zO (by rw[ABA]; omega),zO (by simp; omega)]
 rw[this];simp
theorem A1Q (h:Hp)(n:Nat)(hn:n<=1048576):IX Tryz.prog true h 29 (.int .i64 (n:Int)) (.int .i64 (n:Int))=some (.own h.length 0 n,h++[.live 1 (cR [] n)]):=by
 have hz:N9 Tryz.prog 3=some [.int .i64 0]:=by kernel_rfl
 have hr:room n 8:=OX (by omega) (by omega);unfold IX;simp only[A0V,sz3,A2Y,hz,qV];rw[if_pos ⟨by omega,Int.le_refl _,hr,rfl⟩]
 have:cR [] n=jJ n [.int .i64 0]:=by
  apply List.ext_getElem?;intro i;by_cases hi:i<n
  .rw[VS _ hi,List.getElem?_replicate,if_pos hi]; simp
  .rw[zO (by rw[X8]; omega),zO (by simp; omega)]
 rw[this];simp
theorem A4J {h:Hp}{o j:Nat}{rows:List (List AV)}(ho:h[o]?=some (.live 1 rows))(hj:∃v,rows[j]?=some [v])(b:Bool):FO Tryz.prog h 4 (.ptr o j 0) (.bool b)=some (h.set o (.live 1 (rows.set j [.bool b]))):=by
 obtain⟨v,hv⟩:=hj;rw[G7 (cs:=[.bool b]) rfl sz4 ho hv (by simp)]; rfl
theorem A4I {h:Hp}{o j:Nat}{rows:List (List AV)}{x:Int}(ho:h[o]?=some (.live 1 rows))(hj:∃v,rows[j]?=some [v]):FO Tryz.prog h 3 (.ptr o j 0) (.int .i64 x)=some (h.set o (.live 1 (rows.set j [.int .i64 x]))):=by
 obtain⟨v,hv⟩:=hj;rw[G7 (cs:=[.int .i64 x]) rfl sz3 ho hv (by simp)]; rfl
section
variable (G:Nat->AV)
set_option maxHeartbeats 1000000 in
theorem ALS (l:List Vr)(m:SM)(gs:List Gp)(s:SM)(hl:l.length<=1048576)(hg:gs.length<=1048576)(hw:(flG gs).length<=1048576)(h:Hp):PCall (En G) 53 [.sl m 4 (l.map FI),.sl s 1 (gs.map NV)] h (.bool (gOK l gs)):=by
 refine ACalls.pure0 rfl ?_;refine acN Tryz.func53 rfl ?_;show awp _ _ _ _ _ (EK _ [.tmp 4] _);simp -implicitDefEqProofs only[vQ,BD,JV,↓reduceIte,jA,enP,RZ,jR,A1Q h l.length hl];refine GI 0 (fun F H=>F 0=.sl m 4 (l.map FI)∧F 5=.own h.length 0 l.length∧H=h++[ABlk.live 1 (cR (flG gs) l.length)]∧(∀g∈gs,g.l≠[])∧∀x∈flG gs,0<=x∧x<l.length) (fun F H=>F 4=.bool (gOK l gs)∧ext h H) ?_ ?_ ?_
 .refine D7 (fun n F H=>∃i,n+i=gs.length∧F 0=.sl m 4 (l.map FI)∧F 1=.sl s 1 (gs.map NV)∧F 5=.own h.length 0 l.length∧F 6=.int .i64 (i:Nat)∧H=h++[ABlk.live 1 (cR (flG (gs.take i)) l.length)]∧(∀g∈gs.take i,g.l≠[])∧∀x∈flG (gs.take i),0<=x∧x<l.length) gs.length ⟨0,by simp,by simp -implicitDefEqProofs only[vQ,↓reduceIte,jA],by simp -implicitDefEqProofs only[vQ,↓reduceIte,jA],by simp -implicitDefEqProofs only[AA,↓reduceIte,jA],by simp -implicitDefEqProofs only[AA,↓reduceIte]; rfl,rfl,by simp,by simp [flG]⟩ ?_
  rintro n F H ⟨i,hi,f0,f1,f5,f6,rfl,hne,hin⟩;simp -implicitDefEqProofs only[vQ,BD,↓reduceIte,jA,enP,AR8,f1,f6,jR];refine C9 (fun hc=>?_) (fun hc=>?_)
  .have hi':i<gs.length:=by simpa using hc
   have lg:∀H:Hp,DF Tryz.prog H 29 (.fptr 1 (gs.map NV) i 0)=some (.sl gs[i].m 1 (gs[i].l.map qencI)):=fun H=>by rw[FX AQD hi']; rfl
   simp -implicitDefEqProofs only[vQ,BD,↓reduceIte,jA,enP,OU,Y7,f1,f6,EZ hi',lg,jR];refine C9 (fun hz=>?_) (fun hz=>?_)
   .simp -implicitDefEqProofs only[vQ,BD,↓reduceIte]
    exact⟨by rw[AN2 (zC hi') (qI (by simpa using hz))],_,rfl⟩
   have hnz:gs[i].l≠[]:=by
    intro e; rw[e] at hz; simp at hz
   simp -implicitDefEqProofs only[vQ,BD];refine GI 2 (fun F' H'=>F' 0=.sl m 4 (l.map FI)∧F' 1=.sl s 1 (gs.map NV)∧F' 5=.own h.length 0 l.length∧F' 6=.int .i64 (i:Nat)∧H'=h++[ABlk.live 1 (cR (flG (gs.take i)++gs[i].l) l.length)]∧∀x∈flG (gs.take i)++gs[i].l,0<=x∧x<l.length) (fun F' H'=>F' 4=.bool (gOK l gs)∧ext h H') ?_ ?_ ?_
   .refine D7 (fun n' F' H'=>∃j,n'+j=gs[i].l.length∧F' 0=.sl m 4 (l.map FI)∧F' 1=.sl s 1 (gs.map NV)∧F' 5=.own h.length 0 l.length∧F' 6=.int .i64 (i:Nat)∧F' 7=.int .i64 (j:Nat)∧H'=h++[ABlk.live 1 (cR (flG (gs.take i)++gs[i].l.take j) l.length)]∧∀x∈flG (gs.take i)++gs[i].l.take j,0<=x∧x<l.length) gs[i].l.length ⟨0,by simp,by simp -implicitDefEqProofs only[AA,↓reduceIte,jA,f0],by simp -implicitDefEqProofs only[AA,↓reduceIte,jA,f1],by simp -implicitDefEqProofs only[AA,↓reduceIte,jA,f5],by simp -implicitDefEqProofs only[AA,↓reduceIte,jA,f6],by simp -implicitDefEqProofs only[AA,↓reduceIte]; rfl,by rw[qC,jD],by rw[qC,jD]; exact hin⟩ ?_
    clear f0 f1 f5 f6;rintro n' F H ⟨j,hj,f0,f1,f5,f6,f7,rfl,hin2⟩;simp -implicitDefEqProofs only[vQ,BD,↓reduceIte,jA,enP,OU,Y7,f1,f6,f7,EZ hi',lg,jR];refine C9 (fun hc=>?_) (fun hc=>?_)
    .have hj':j<gs[i].l.length:=by simpa using hc
     have hsp:=TP hi' hj';have hmem:gs[i].l[j]∈flG gs:=by rw[hsp]; simp
     have l3:∀H:Hp,DF Tryz.prog H 3 (.fptr 1 (gs[i].l.map qencI) j 0)=some (.int .i64 gs[i].l[j]):=fun H=>by rw[FX ag3 hj']; rfl
     simp -implicitDefEqProofs only[vQ,CV,BD,↓reduceIte,jA,enP,OU,KT,f1,f6,f7,EZ hi',lg,EZ hj',l3];cases b1:decide (gs[i].l[j]<0)
     case true =>
      simp -implicitDefEqProofs only[vQ,CV,BD,EY,↓reduceIte,jA,b1];exact⟨by rw[AG9 hmem (by simp at b1; omega)],_,rfl⟩
     simp -implicitDefEqProofs only[vQ,CV,BD,↓reduceIte,jA,enP,RZ,b1,f0,jR];refine C9 (fun b2=>?_) (fun b2=>?_)
     .simp -implicitDefEqProofs only[vQ,BD,↓reduceIte]
      exact⟨by rw[AG9 hmem (by simp at b2; omega)],_,rfl⟩
     have h0:0<=gs[i].l[j]:=by simpa using b1
     obtain⟨k,hk⟩:=qM h0;have hkl:k<l.length:=by rw[hk] at b2; simp at b2; omega
     have hb0:=CU h (ABlk.live 1 (cR (flG (gs.take i)++gs[i].l.take j) l.length))
     have hcnt:(flG (gs.take i)++gs[i].l.take j).count ((k:Nat):Int)<=1048576:=by
      have h1:=List.count_le_length (a:=((k:Nat):Int)) (l:=flG (gs.take i)++gs[i].l.take j)
      have h2:(flG (gs.take i)++gs[i].l.take j).length<=(flG gs).length:=by
       rw[hsp]; simp only[zT]; omega
      omega
     have hjb:j<=1048576:=by
      have h2:gs[i].l.length<=(flG gs).length:=by
       rw[hsp]; simp only[zT,zZ,zX,List.length_drop]; omega
      omega
     have lc:DF Tryz.prog (h++[ABlk.live 1 (cR (flG (gs.take i)++gs[i].l.take j) l.length)]) 3 (.ptr h.length k 0)=some (.int .i64 (((flG (gs.take i)++gs[i].l.take j).count ((k:Nat):Int):Nat):Int)):=by
      rw[DJ ag3 hb0 (VS _ hkl)]; rfl
     have hst:=A4I (x:=(((flG (gs.take i)++gs[i].l.take j).count ((k:Nat):Int)+1:Nat):Int)) hb0 (j:=k) ⟨_,VS _ hkl⟩;rw[AZ8 _ hkl,OA] at hst
     have hap:(flG (gs.take i)++gs[i].l.take j)++[((k:Nat):Int)]=flG (gs.take i)++gs[i].l.take (j+1):=by
      rw[qK hj',hk,zJ]
     simp -implicitDefEqProofs only[vQ,BD,↓reduceIte,jA,enP,KT,jO,f5,hk,OZ hb0 hkl,lc,wrap_succ (show(flG (gs.take i)++gs[i].l.take j).count ((k:Nat):Int)<9223372036854775807 by omega),hst,f7,wrap_succ (show j<9223372036854775807 by omega)];refine⟨n'-1,by omega,j+1,by omega,by trivial,by trivial,by trivial,by trivial,rfl,by rw[<-hap],fun x hx=>?_⟩;rw[<-hap] at hx;rcases qE.1 hx with hx|hx
     .exact hin2 x hx
     .rw[wB] at hx
      rw[hx]; omega
    .have hj':¬j<gs[i].l.length:=by simpa using hc
     have e:gs[i].l.take j=gs[i].l:=zH (by omega);rw[e] at hin2;simp -implicitDefEqProofs only[vQ,↓reduceIte,jA];exact⟨f0,f1,f5,f6,by rw[e],hin2⟩
   .rintro F' H' ⟨g0,g1,g5,g6,rfl,hin2⟩
    simp -implicitDefEqProofs only[vQ,BD,↓reduceIte,jA,enP,g6,wrap_succ (show i<9223372036854775807 by omega)];have hft:=ZI hi';refine⟨n-1,by omega,i+1,by omega,by first|exact g0|trivial,by first|exact g1|trivial,by first|exact g5|trivial,rfl,by rw[hft],fun g hg=>?_,by rw[hft]; exact hin2⟩;rw[qK hi'] at hg;rcases qE.1 hg with hg|hg
    .exact hne g hg
    .rw[wB] at hg; rw[hg]; exact hnz
   .rintro F' H' ⟨g4,hx⟩
    simp -implicitDefEqProofs only[vQ,g4];exact⟨trivial,hx⟩
  .have hi':¬i<gs.length:=by simpa using hc
   rw[zH (by omega)] at hne hin;simp -implicitDefEqProofs only[vQ,↓reduceIte,jA];exact⟨f0,f5,by rw[zH (by omega)],hne,hin⟩
 .rintro F H ⟨f0,f5,rfl,hne,hin⟩
  have hb0:=CU h (ABlk.live 1 (cR (flG gs) l.length));have hx0:ext h (h++[ABlk.live 1 (cR (flG gs) l.length)]):=⟨_,rfl⟩;generalize h++[ABlk.live 1 (cR (flG gs) l.length)]=H0 at hb0 hx0|-;simp -implicitDefEqProofs only[vQ,BD,↓reduceIte];refine D7 (fun n F H=>∃i,n+i=l.length∧(∀(j:Nat),j<i->∀hj:j<l.length,(flG gs).count ((j:Nat):Int)=if l[j].mode=0 then 0 else 1)∧F 0=.sl m 4 (l.map FI)∧F 5=.own h.length 0 l.length∧F 9=.int .i64 (i:Nat)∧H=H0) l.length ⟨0,by simp,fun j hj=>absurd hj (by omega),by simp -implicitDefEqProofs only[AA,↓reduceIte,jA,f0],by simp -implicitDefEqProofs only[AA,↓reduceIte,jA,f5],by simp -implicitDefEqProofs only[AA,↓reduceIte]; rfl,rfl⟩ ?_;clear f0 f5;rintro n F H ⟨i,hi,hb,f0,f5,f9,rfl⟩;simp -implicitDefEqProofs only[vQ,BD,↓reduceIte,jA,enP,RZ,f0,f9,jR];refine C9 (fun hc=>?_) (fun hc=>?_)
  .have hi':i<l.length:=by simpa using hc
   have l2:DF Tryz.prog H 3 (.fptr 4 (l.map FI) i 2)=some (.int .i64 l[i].mode):=by rw[FX ag3 hi']; rfl
   have lc:DF Tryz.prog H 3 (.ptr h.length i 0)=some (.int .i64 (((flG gs).count ((i:Nat):Int):Nat):Int)):=by
    rw[DJ ag3 hb0 (VS _ hi')]; rfl
   have nxt:(flG gs).count ((i:Nat):Int)=(if l[i].mode=0 then 0 else 1)->∀(j:Nat),j<i+1->∀hj:j<l.length,(flG gs).count ((j:Nat):Int)=if l[j].mode=0 then 0 else 1:=fun he j hj hl=>by
    rcases jY j i with h1|h1
    .exact hb j h1 hl
    .obtain rfl:j=i:=by omega
     exact he
   simp -implicitDefEqProofs only[vQ,BD,↓reduceIte,jA,enP,QP,NC,f0,f9,EZ hi',l2];refine C9 (fun b1=>?_) (fun b1=>?_)
   .have hm:l[i].mode=0:=by simpa using b1
    simp -implicitDefEqProofs only[vQ,BD,↓reduceIte,jA,enP,KT,f5,f9,OZ hb0 hi',lc];refine C9 (fun b2=>?_) (fun b2=>?_)
    .simp -implicitDefEqProofs only[vQ,BD,↓reduceIte]
     refine⟨?_,hx0⟩;rw[ZC hi' (by rw[if_pos hm]; simp [bne] at b2; exact fun e=>b2 e)]
    .have he:=nxt (by rw[if_pos hm]; simp [bne] at b2; exact b2)
     simp -implicitDefEqProofs only[vQ,BD,↓reduceIte,jA,enP,f9,wrap_succ (show i<9223372036854775807 by omega)];exact⟨n-1,by omega,i+1,by omega,he,by trivial,by trivial,rfl,trivial⟩
   .have hm:¬l[i].mode=0:=by simpa using b1
    simp -implicitDefEqProofs only[vQ,BD,↓reduceIte,jA,enP,KT,f5,f9,OZ hb0 hi',lc];refine C9 (fun b2=>?_) (fun b2=>?_)
    .simp -implicitDefEqProofs only[vQ,BD,↓reduceIte]
     refine⟨?_,hx0⟩;rw[ZC hi' (by rw[if_neg hm]; intro e; rw[e] at b2; exact absurd b2 (by decide))]
    .have he:=nxt (by rw[if_neg hm]; simp [bne] at b2; omega)
     simp -implicitDefEqProofs only[vQ,BD,↓reduceIte,jA,enP,f9,wrap_succ (show i<9223372036854775807 by omega)];exact⟨n-1,by omega,i+1,by omega,he,by trivial,by trivial,rfl,trivial⟩
  .have hi':¬i<l.length:=by simpa using hc
   simp -implicitDefEqProofs only[vQ,BD,↓reduceIte];refine⟨?_,hx0⟩;rw[show gOK l gs=true from decide_eq_true ⟨hne,hin,fun i=>hb i.1 (by omega) i.2⟩]
 .rintro F H ⟨f4,hx⟩
  simp -implicitDefEqProofs only[vQ,f4];exact⟨trivial,hx⟩
end
section
variable (G:Nat->AV)
set_option maxHeartbeats 1000000 in
theorem AJI (p:Pr)(hl:p.vars.length<=1048576)(hg:p.groups.length<=1048576)(hw:(flG p.groups).length<=1048576)(h:Hp):PCall (En G) 66 [.agg (EE p)] h (.int .i64 (if gOK p.vars p.groups=true then 0 else 1)):=by
 refine ACalls.pure0 rfl ?_;refine acN Tryz.func66 rfl ?_;show awp _ _ _ _ _ (EK _ [.tmp 2] _);have ge:=CU h (ABlk.live 5 [EE p]);have hxx:ext h (h++[ABlk.live 5 [EE p]]):=(ext.rfl' h).app _;simp -implicitDefEqProofs only[vQ,BD,↓reduceIte,jA,enP,KC,UN];generalize h++[ABlk.live 5 [EE p]]=hb at ge hxx|-;generalize h.length=eb at ge|-;have nb:gOK p.vars p.groups=false->(AV.int .i64 1=AV.int .i64 (if gOK p.vars p.groups=true then 0 else 1)):=fun hh=>by rw[hh]; rfl
 have l0:DF Tryz.prog hb 22 (.ptr eb 0 0)=some (.sl p.vm 4 (p.vars.map FI)):=by rw[DJ TU ge (row:=EE p) rfl]; rfl
 simp -implicitDefEqProofs only[vQ,BD,JV,↓reduceIte,jA,enP,RZ,AAT,l0,jR,A1R hb p.vars.length hl];have geA:∀x:ABlk,(hb++[x])[eb]?=some (ABlk.live 5 [EE p]):=fun x=>BO ge
 have l4:∀x:ABlk,DF Tryz.prog (hb++[x]) 25 (.ptr eb 0 4)=some (.sl p.gm 1 (p.groups.map NV)):=fun x=>by rw[DJ AXI (geA x) (row:=EE p) rfl]; rfl
 have lp:∀x:ABlk,DF Tryz.prog (hb++[x]) 27 (.ptr eb 0 0)=some (.agg (EE p)):=fun x=>by rw[GV UY TF (geA x) (row:=EE p) rfl (by rw[JE]; exact jP 5)]; rfl
 have l0A:∀x:ABlk,DF Tryz.prog (hb++[x]) 22 (.ptr eb 0 0)=some (.sl p.vm 4 (p.vars.map FI)):=fun x=>by rw[DJ TU (geA x) (row:=EE p) rfl]; rfl
 have hxA:∀x:ABlk,ext h (hb++[x]):=fun x=>hxx.app _
 simp -implicitDefEqProofs only[vQ,BD,↓reduceIte,enP,AR8,l4,jR];refine GI 0 (fun F H=>F 1=.ptr eb 0 0∧F 3=.own hb.length 0 p.vars.length∧H=hb++[ABlk.live 1 (bR (flG p.groups) p.vars.length)]∧(∀g∈p.groups,g.l≠[])∧(∀x∈flG p.groups,P8 p.vars x=true)∧∀x:Int,(flG p.groups).count x<=1) (fun F H=>F 2=.int .i64 (if gOK p.vars p.groups=true then 0 else 1)∧ext h H) ?_ ?_ ?_
 .refine D7 (fun n F H=>∃i,n+i=p.groups.length∧F 1=.ptr eb 0 0∧F 3=.own hb.length 0 p.vars.length∧F 14=.sl p.gm 1 (p.groups.map NV)∧F 15=.int .i64 (p.groups.length:Nat)∧F 16=.int .i64 (i:Nat)∧H=hb++[ABlk.live 1 (bR (flG (p.groups.take i)) p.vars.length)]∧(∀g∈p.groups.take i,g.l≠[])∧(∀x∈flG (p.groups.take i),P8 p.vars x=true)∧∀x:Int,(flG (p.groups.take i)).count x<=1) p.groups.length ⟨0,by simp,by simp -implicitDefEqProofs only[AA,↓reduceIte,jA],by simp -implicitDefEqProofs only[AA,↓reduceIte,jA],by simp -implicitDefEqProofs only[AA,↓reduceIte,jA],by simp -implicitDefEqProofs only[AA,↓reduceIte,jA],by simp -implicitDefEqProofs only[AA,↓reduceIte]; rfl,rfl,by simp,by simp [flG],by simp [flG]⟩ ?_
  rintro n F H ⟨i,hi,f1,f3,f14,f15,f16,rfl,hne,hin,hct⟩;simp -implicitDefEqProofs only[vQ,BD,↓reduceIte,enP,f15,f16];refine C9 (fun hc=>?_) (fun hc=>?_)
  .have hi':i<p.groups.length:=by simpa using hc
   have lg:∀H:Hp,DF Tryz.prog H 29 (.fptr 1 (p.groups.map NV) i 0)=some (.sl p.groups[i].m 1 (p.groups[i].l.map qencI)):=fun H=>by rw[FX AQD hi']; rfl
   simp -implicitDefEqProofs only[vQ,BD,↓reduceIte,jA,enP,OU,Y7,f14,f16,EZ hi',lg,jR];refine C9 (fun hz=>?_) (fun hz=>?_)
   .simp -implicitDefEqProofs only[vQ,BD,↓reduceIte]
    exact⟨nb (AN2 (zC hi') (qI (by simpa using hz))),hxA _⟩
   have hnz:p.groups[i].l≠[]:=by
    intro e; rw[e] at hz; simp at hz
   simp -implicitDefEqProofs only[vQ,BD,↓reduceIte,jA,enP,Y7,jR];refine GI 2 (fun F' H'=>F' 1=.ptr eb 0 0∧F' 3=.own hb.length 0 p.vars.length∧F' 14=.sl p.gm 1 (p.groups.map NV)∧F' 15=.int .i64 (p.groups.length:Nat)∧F' 16=.int .i64 (i:Nat)∧H'=hb++[ABlk.live 1 (bR (flG (p.groups.take i)++p.groups[i].l) p.vars.length)]∧(∀x∈flG (p.groups.take i)++p.groups[i].l,P8 p.vars x=true)∧∀x:Int,(flG (p.groups.take i)++p.groups[i].l).count x<=1) (fun F' H'=>F' 2=.int .i64 (if gOK p.vars p.groups=true then 0 else 1)∧ext h H') ?_ ?_ ?_
   .refine D7 (fun n' F' H'=>∃j,n'+j=p.groups[i].l.length∧F' 1=.ptr eb 0 0∧F' 3=.own hb.length 0 p.vars.length∧F' 14=.sl p.gm 1 (p.groups.map NV)∧F' 15=.int .i64 (p.groups.length:Nat)∧F' 16=.int .i64 (i:Nat)∧F' 23=.sl p.groups[i].m 1 (p.groups[i].l.map qencI)∧F' 24=.int .i64 (p.groups[i].l.length:Nat)∧F' 25=.int .i64 (j:Nat)∧H'=hb++[ABlk.live 1 (bR (flG (p.groups.take i)++p.groups[i].l.take j) p.vars.length)]∧(∀x∈flG (p.groups.take i)++p.groups[i].l.take j,P8 p.vars x=true)∧∀x:Int,(flG (p.groups.take i)++p.groups[i].l.take j).count x<=1) p.groups[i].l.length
     ⟨0,by simp,by simp -implicitDefEqProofs only[AA,↓reduceIte,jA,f1],by simp -implicitDefEqProofs only[AA,↓reduceIte,jA,f3],by simp -implicitDefEqProofs only[AA,↓reduceIte,jA,f14],by simp -implicitDefEqProofs only[AA,↓reduceIte,jA,f15],by simp -implicitDefEqProofs only[AA,↓reduceIte,jA,f16],by simp -implicitDefEqProofs only[AA,↓reduceIte,jA],by simp -implicitDefEqProofs only[AA,↓reduceIte,jA],by simp -implicitDefEqProofs only[AA,↓reduceIte]; rfl,by rw[qC,jD],by rw[qC,jD]; exact hin,by rw[qC,jD]; exact hct⟩ ?_
    clear f1 f3 f14 f15 f16;rintro n' F H ⟨j,hj,f1,f3,f14,f15,f16,f23,f24,f25,rfl,hin2,hct2⟩;simp -implicitDefEqProofs only[vQ,BD,↓reduceIte,enP,f24,f25];refine C9 (fun hc=>?_) (fun hc=>?_)
    .have hj':j<p.groups[i].l.length:=by simpa using hc
     have hsp:=TP hi' hj';have hmem:p.groups[i].l[j]∈flG p.groups:=by rw[hsp]; simp
     have l3:∀H:Hp,DF Tryz.prog H 3 (.fptr 1 (p.groups[i].l.map qencI) j 0)=some (.int .i64 p.groups[i].l[j]):=fun H=>by rw[FX ag3 hj']; rfl
     simp -implicitDefEqProofs only[vQ,BD,↓reduceIte,jA,enP,KT,f23,f25,EZ hj',l3,f1,lp];refine(VF G p _ hl _).use ?_;cases b1:P8 p.vars p.groups[i].l[j]
     .simp -implicitDefEqProofs only[vQ,CV,BD,EY,↓reduceIte,jA]
      exact⟨nb (AWE hmem b1),hxA _⟩
     obtain⟨k,hkl,hk,hm⟩:=AFI b1;have hb0:=CU hb (ABlk.live 1 (bR (flG (p.groups.take i)++p.groups[i].l.take j) p.vars.length))
     have lc:DF Tryz.prog (hb++[ABlk.live 1 (bR (flG (p.groups.take i)++p.groups[i].l.take j) p.vars.length)]) 4 (.ptr hb.length k 0)=some (.bool (decide (((k:Nat):Int)∈flG (p.groups.take i)++p.groups[i].l.take j))):=by
      rw[DJ ag4 hb0 (YA _ hkl)]; rfl
     have hst:=A4J hb0 (j:=k) ⟨_,YA _ hkl⟩ true;rw[A0D _ hkl,OA] at hst
     have hap:(flG (p.groups.take i)++p.groups[i].l.take j)++[((k:Nat):Int)]=flG (p.groups.take i)++p.groups[i].l.take (j+1):=by
      rw[qK hj',hk,zJ]
     have hjb:j<=1048576:=by
      have h2:p.groups[i].l.length<=(flG p.groups).length:=by
       rw[hsp]; simp only[zT,zZ,zX,List.length_drop]; omega
      omega
     simp -implicitDefEqProofs only[vQ,CV,BD,↓reduceIte,jA,jZ,enP,AV5,f3,hk,OZ hb0 hkl,lc];refine C9 (fun b2=>?_) (fun b2=>?_)
     .simp -implicitDefEqProofs only[vQ,BD,↓reduceIte]
      refine⟨nb (ZC hkl ?_),hxA _⟩;have h1:0<(flG (p.groups.take i)++p.groups[i].l.take j).count ((k:Nat):Int):=List.count_pos_iff.2 (by simpa using b2);rw[if_neg hm,hsp,List.count_append,hk,List.count_cons_self]; omega
     .have hnin:¬((k:Nat):Int)∈flG (p.groups.take i)++p.groups[i].l.take j:=by simpa using b2
      simp -implicitDefEqProofs only[vQ,BD,↓reduceIte,jA,enP,AV5,jO,f3,OZ hb0 hkl,hst,f25,wrap_succ (show j<9223372036854775807 by omega)];refine⟨n'-1,by omega,j+1,by omega,by trivial,by trivial,by trivial,by trivial,by trivial,by trivial,by trivial,rfl,by rw[<-hap],fun x hx=>?_,fun x=>?_⟩
      .rw[<-hap] at hx
       rcases qE.1 hx with hx|hx
       .exact hin2 x hx
       .rw[wB] at hx
        rw[hx,<-hk]; exact b1
      .rw[<-hap,List.count_append]
       have h1:=hct2 x;by_cases hxk:((k:Nat):Int)=x
       .subst hxk
        rw[List.count_eq_zero.2 hnin]; simp
       .rw[List.count_append] at h1
        simp [hxk]; exact h1
    .have hj':¬j<p.groups[i].l.length:=by simpa using hc
     have e:p.groups[i].l.take j=p.groups[i].l:=zH (by omega);rw[e] at hin2 hct2;simp -implicitDefEqProofs only[vQ,↓reduceIte,jA];exact⟨f1,f3,f14,f15,f16,by rw[e],hin2,hct2⟩
   .rintro F' H' ⟨g1,g3,g14,g15,g16,rfl,hin2,hct2⟩
    simp -implicitDefEqProofs only[vQ,BD,↓reduceIte,jA,enP,g16,wrap_succ (show i<9223372036854775807 by omega)];have hft:=ZI hi';refine⟨n-1,by omega,i+1,by omega,by first|exact g1|trivial,by first|exact g3|trivial,by first|exact g14|trivial,by first|exact g15|trivial,rfl,by rw[hft],fun g hg=>?_,by rw[hft]; exact hin2,by rw[hft]; exact hct2⟩;rw[qK hi'] at hg;rcases qE.1 hg with hg|hg
    .exact hne g hg
    .rw[wB] at hg; rw[hg]; exact hnz
   .rintro F' H' ⟨g2,hx⟩
    simp -implicitDefEqProofs only[vQ,g2];exact⟨trivial,hx⟩
  .have hi':¬i<p.groups.length:=by simpa using hc
   rw[zH (by omega)] at hne hin hct;simp -implicitDefEqProofs only[vQ,↓reduceIte,jA];exact⟨f1,f3,by rw[zH (by omega)],hne,hin,hct⟩
 .rintro F H ⟨f1,f3,rfl,hne,hin,hct⟩
  have hb0:=CU hb (ABlk.live 1 (bR (flG p.groups) p.vars.length));have l0':=l0A (ABlk.live 1 (bR (flG p.groups) p.vars.length));have lp':=lp (ABlk.live 1 (bR (flG p.groups) p.vars.length));have hx0:=hxA (ABlk.live 1 (bR (flG p.groups) p.vars.length));generalize hb++[ABlk.live 1 (bR (flG p.groups) p.vars.length)]=H0 at hb0 hx0 l0' lp'|-;simp -implicitDefEqProofs only[vQ,BD,↓reduceIte,enP,RZ,KC,f1,l0',jR];refine D7 (fun n F H=>∃i,n+i=p.vars.length∧(∀(j:Nat),j<i->j<p.vars.length->P8 p.vars (j:Nat)=true->((j:Nat):Int)∈flG p.groups)∧F 1=.ptr eb 0 0∧F 3=.own hb.length 0 p.vars.length∧F 46=.int .i64 (p.vars.length:Nat)∧F 47=.int .i64 (i:Nat)∧H=H0) p.vars.length ⟨0,by simp,fun j hj=>absurd hj (by omega),by simp -implicitDefEqProofs only[AA,↓reduceIte,jA,f1],by simp -implicitDefEqProofs only[AA,↓reduceIte,jA,f3],by simp -implicitDefEqProofs only[AA,↓reduceIte,jA],by simp -implicitDefEqProofs only[AA,↓reduceIte]; rfl,rfl⟩ ?_;clear f1 f3;rintro n F H ⟨i,hi,hbb,f1,f3,f46,f47,rfl⟩;simp -implicitDefEqProofs only[vQ,BD,↓reduceIte,enP,f46,f47];refine C9 (fun hc=>?_) (fun hc=>?_)
  .have hi':i<p.vars.length:=by simpa using hc
   have lc:DF Tryz.prog H 4 (.ptr hb.length i 0)=some (.bool (decide (((i:Nat):Int)∈flG p.groups))):=by
    rw[DJ ag4 hb0 (YA _ hi')]; rfl
   simp -implicitDefEqProofs only[vQ,BD,↓reduceIte,jA,enP,f1,f47,lp'];refine(VF G p _ hl _).use ?_
   have nxt:(P8 p.vars (i:Nat)=true->((i:Nat):Int)∈flG p.groups)->∀(j:Nat),j<i+1->j<p.vars.length->P8 p.vars (j:Nat)=true->((j:Nat):Int)∈flG p.groups:=fun he j hj hl hr=>by
    rcases jY j i with h1|h1
    .exact hbb j h1 hl hr
    .obtain rfl:j=i:=by omega
     exact he hr
   cases b1:P8 p.vars ((i:Nat):Int)
   .have he:=nxt (fun q=>by rw[b1] at q; cases q)
    simp -implicitDefEqProofs only[vQ,CV,BD,EY,↓reduceIte,jA,enP,f47,wrap_succ (show i<9223372036854775807 by omega)];exact⟨n-1,by omega,i+1,by omega,he,by trivial,by trivial,by trivial,rfl,trivial⟩
   simp -implicitDefEqProofs only[vQ,CV,BD,↓reduceIte,jA,enP,AV5,f3,f47,OZ hb0 hi',lc];refine C9 (fun b2=>?_) (fun b2=>?_)
   .simp -implicitDefEqProofs only[vQ,BD,↓reduceIte]
    refine⟨nb (ZC hi' ?_),hx0⟩;have h1:¬((i:Nat):Int)∈flG p.groups:=by simpa using b2
    have h2:¬p.vars[i].mode=0:=by rw[WA hi'] at b1; simpa using b1
    rw[if_neg h2,List.count_eq_zero.2 h1]; decide
   .have he:=nxt (fun _=>by simpa using b2)
    simp -implicitDefEqProofs only[vQ,BD,↓reduceIte,jA,enP,f47,wrap_succ (show i<9223372036854775807 by omega)];exact⟨n-1,by omega,i+1,by omega,he,by trivial,by trivial,by trivial,rfl,trivial⟩
  .have hi':¬i<p.vars.length:=by simpa using hc
   simp -implicitDefEqProofs only[vQ,BD,↓reduceIte];refine⟨?_,hx0⟩
   have:gOK p.vars p.groups=true:=decide_eq_true ⟨hne,fun x hx=>by
    obtain⟨k,hk,rfl,_⟩:=AFI (hin x hx);omega,fun j=>by
    by_cases hr:P8 p.vars ((j.1:Nat):Int)=true
    .have h1:=List.count_pos_iff.2 (hbb j.1 (by omega) j.2 hr)
     have h2:=hct ((j.1:Nat):Int);rw[WA j.2] at hr;rw[if_neg (by simpa using hr)]; omega
    .have h1:¬((j.1:Nat):Int)∈flG p.groups:=fun hm=>hr (hin _ hm)
     rw[WA j.2] at hr;rw[if_pos (by simpa using hr)]
     exact List.count_eq_zero.2 h1⟩
   rw[this]; rfl
 .rintro F H ⟨f2,hx⟩
  simp -implicitDefEqProofs only[vQ,f2];exact⟨trivial,hx⟩
end
structure PrS (p:Pr):Prop where
 vars:p.vars.length<=1048576
 names:∀v∈p.vars,v.name.size<=1048576
 exprs:p.hard.length+p.soft.length<=1048576
 wts:∀e∈p.hard++p.soft,wt e<=1048576
 dists:p.dists.length<=1048576
 ws:∀d∈p.dists,d.ws.length<=1048576
 groups:p.groups.length<=1048576
 members:(flG p.groups).length<=1048576
def NJ (p:Pr):Int:=if LY p.vars≠0 then LY p.vars else if LP p.vars (p.hard++p.soft)≠0 then LP p.vars (p.hard++p.soft) else if OH p.vars p.dists≠0 then OH p.vars p.dists else if gOK p.vars p.groups=true then 0 else 1
section
variable (G:Nat->AV)
theorem AJ2 (fs:List (FuncId×List AV×Int))(b:Nat)(hn:fs.length<=1048576)(h:Hp)(hb:h[b]?=some (.live 1 (fs.map fun x=>[.fn (.func x.1) [] x.2.1])))(hf:∀x∈fs,PCall (En G) x.1 ([]++x.2.1) h (.int .i64 x.2.2)):PCall (En G) 58 [.own b 0 fs.length] h (.int .i64 (PG (fun x=>x.2.2) fs)):=by
 refine ACalls.pure0 rfl ?_;refine acN Tryz.func58 rfl ?_;show awp _ _ _ _ _ (EK _ [.tmp 2] _);simp -implicitDefEqProofs only[vQ,BD,↓reduceIte,jA,enP,A1U];refine GI 0 (fun F H=>H=h∧∀x∈fs,x.2.2=0) (fun F H=>F 2=.int .i64 (PG (fun x=>x.2.2) fs)∧ext h H) ?_ ?_ ?_
 .refine D7 (fun n F H=>∃i,n+i=fs.length∧F 6=.own b 0 fs.length∧F 7=.int .i64 (fs.length:Nat)∧F 8=.int .i64 (i:Nat)∧H=h∧∀(j:Nat) (hj:j<i) (hl:j<fs.length),fs[j].2.2=0) fs.length ⟨0,by simp,by simp -implicitDefEqProofs only[AA,↓reduceIte,jA],by simp -implicitDefEqProofs only[AA,↓reduceIte,jA],by simp -implicitDefEqProofs only[AA,↓reduceIte]; rfl,rfl,by intro j hj; omega⟩ ?_
  rintro n F H ⟨i,hi,f6,f7,f8,rfl,hz⟩;simp -implicitDefEqProofs only[vQ,BD,↓reduceIte,enP,f7,f8];refine C9 (fun hc=>?_) (fun hc=>?_)
  .have hi':i<fs.length:=by simpa using hc
   have lf:DF Tryz.prog H 103 (.ptr b i 0)=some (.fn (.func fs[i].1) [] fs[i].2.1):=by
    rw[DJ (row:=[.fn (.func fs[i].1) [] fs[i].2.1]) A3X hb (by rw[List.getElem?_map,jX hi']; rfl)]; rfl
   simp -implicitDefEqProofs only[vQ,BD,qA,↓reduceIte,jA,enP,A16,f6,f8,OZ hb hi',lf];refine(hf _ (zC hi')).use ?_;simp -implicitDefEqProofs only[vQ,BD,↓reduceIte,enP];refine C9 (fun hz'=>?_) (fun hz'=>?_)
   .simp -implicitDefEqProofs only[vQ,BD,↓reduceIte,jA]
    exact⟨by rw[Q8 (fun x:FuncId×List AV×Int=>x.2.2) fs i hi' (fun j hj=>hz j hj (by omega)) (by simpa using hz')],ext.rfl' _⟩
   .simp -implicitDefEqProofs only[vQ,BD,↓reduceIte,jA,enP,f8,wrap_succ (show i<9223372036854775807 by omega)]
    refine⟨n-1,by omega,i+1,by omega,by trivial,by trivial,rfl,trivial,fun j hj hl=>?_⟩;rcases jY j i with h1|h1
    .exact hz j h1 hl
    .obtain rfl:j=i:=by omega
     simpa using hz'
  .have hi':¬i<fs.length:=by simpa using hc
   simp -implicitDefEqProofs only[vQ,↓reduceIte];refine⟨trivial,fun x hx=>?_⟩;obtain⟨j,hj,rfl⟩:=qW hx;exact hz j (by omega) hj
 .rintro F H ⟨rfl,hz⟩
  simp -implicitDefEqProofs only[vQ,BD,↓reduceIte];exact⟨by rw[PQ _ fs fun j hj=>hz _ (zC hj)],ext.rfl' _⟩
 .rintro F H ⟨f2,hx⟩
  simp -implicitDefEqProofs only[vQ,f2];exact⟨trivial,hx⟩
theorem AWY (hG:GOk G)(p:Pr)(hs:PrS p)(b:Nat)(h:Hp)(hb:h[b]?=some (.live 5 [EE p])):PCall (En G) 59 ([]++[.ptr b 0 0]) h (.int .i64 (LY p.vars)):=by
 refine acN Tryz.func59 rfl ?_;show awp _ _ _ _ _ (EK _ [.tmp 1] _);have l0:DF Tryz.prog h 22 (.ptr b 0 0)=some (.sl p.vm 4 (p.vars.map FI)):=by rw[DJ TU hb (row:=EE p) rfl]; rfl
 simp -implicitDefEqProofs only[vQ,BD,qA,↓reduceIte,jA,enX,enP,KC,l0];refine(AOV G hG p.vars p.vm h hs.vars hs.names).use ?_;simp -implicitDefEqProofs only[vQ,BD,↓reduceIte];exact⟨trivial,trivial⟩
theorem AWX (hG:GOk G)(p:Pr)(hs:PrS p)(b:Nat)(h:Hp)(hb:h[b]?=some (.live 5 [EE p])):PCall (En G) 61 ([]++[.ptr b 0 0]) h (.int .i64 (LP p.vars (p.hard++p.soft))):=by
 refine acN Tryz.func61 rfl ?_;show awp _ _ _ _ _ (EK _ [.tmp 1] _);have lp:DF Tryz.prog h 27 (.ptr b 0 0)=some (.agg (EE p)):=by rw[GV UY TF hb (row:=EE p) rfl (by rw[JE]; exact jP 5)]; rfl
 simp -implicitDefEqProofs only[vQ,BD,qA,↓reduceIte,jA,enX,enP,lp];refine(ALY G hG p hs.vars hs.exprs hs.wts h).use ?_;simp -implicitDefEqProofs only[vQ,BD,↓reduceIte];exact⟨trivial,trivial⟩
theorem AWW (p:Pr)(hs:PrS p)(b:Nat)(h:Hp)(hb:h[b]?=some (.live 5 [EE p])):PCall (En G) 63 ([]++[.ptr b 0 0]) h (.int .i64 (OH p.vars p.dists)):=by
 refine acN Tryz.func63 rfl ?_;show awp _ _ _ _ _ (EK _ [.tmp 1] _);have lp:DF Tryz.prog h 27 (.ptr b 0 0)=some (.agg (EE p)):=by rw[GV UY TF hb (row:=EE p) rfl (by rw[JE]; exact jP 5)]; rfl
 simp -implicitDefEqProofs only[vQ,BD,qA,↓reduceIte,jA,enX,enP,lp];refine(AL4 G p hs.vars hs.dists hs.ws h).use ?_;simp -implicitDefEqProofs only[vQ,BD,↓reduceIte];exact⟨trivial,trivial⟩
theorem AWV (p:Pr)(hs:PrS p)(b:Nat)(h:Hp)(hb:h[b]?=some (.live 5 [EE p])):PCall (En G) 65 ([]++[.ptr b 0 0]) h (.int .i64 (if gOK p.vars p.groups=true then 0 else 1)):=by
 refine acN Tryz.func65 rfl ?_;show awp _ _ _ _ _ (EK _ [.tmp 1] _);have lp:DF Tryz.prog h 27 (.ptr b 0 0)=some (.agg (EE p)):=by rw[GV UY TF hb (row:=EE p) rfl (by rw[JE]; exact jP 5)]; rfl
 simp -implicitDefEqProofs only[vQ,BD,qA,↓reduceIte,jA,enX,enP,lp];refine(AJI G p hs.vars hs.groups hs.members h).use ?_;simp -implicitDefEqProofs only[vQ,BD,↓reduceIte];exact⟨trivial,trivial⟩
theorem A3E (h:Hp)(a b c d:Fn)(k l m n:List AV):GG Tryz.prog true h 149 4 [(0,.fn a [] k),(1,.fn b [] l),(2,.fn c [] m),(3,.fn d [] n)]=some (.own h.length 0 4,h++[ABlk.live 1 [[.fn a [] k],[.fn b [] l],[.fn c [] m],[.fn d [] n]]]):=by kernel_rfl
theorem ACV (hG:GOk G)(p:Pr)(hs:PrS p)(h:Hp):PCall (En G) 33 [.agg (EE p)] h (.int .i64 (NJ p)):=by
 refine ACalls.pure0 rfl ?_;refine IV (H:=hint [7] []) (enM G) Tryz.func33 rfl (by kernel_rfl) (by kernel_rfl) (jH (by kernel_rfl)) ?_;show awp _ _ _ _ _ (EK _ [.tmp 2] _);have ge:=CU h (ABlk.live 5 [EE p]);have hxx:ext h (h++[ABlk.live 5 [EE p]]):=(ext.rfl' h).app _;simp -implicitDefEqProofs only[vQ,jW,jI,jK,jV,BD,I5,↓reduceIte,jA,enP,UN,A3E];generalize h++[ABlk.live 5 [EE p]]=hb at ge hxx|-;generalize h.length=eb at ge|-;have hx2:=hxx.app [ABlk.live 1 [[AV.fn (.func 59) [] [.ptr eb 0 0]],[.fn (.func 61) [] [.ptr eb 0 0]],[.fn (.func 63) [] [.ptr eb 0 0]],[.fn (.func 65) [] [.ptr eb 0 0]]]];have ge2:=BO (x:=ABlk.live 1 [[AV.fn (.func 59) [] [.ptr eb 0 0]],[.fn (.func 61) [] [.ptr eb 0 0]],[.fn (.func 63) [] [.ptr eb 0 0]],[.fn (.func 65) [] [.ptr eb 0 0]]]) ge;refine(AJ2 G [(59,[.ptr eb 0 0],LY p.vars),(61,[.ptr eb 0 0],LP p.vars (p.hard++p.soft)),(63,[.ptr eb 0 0],OH p.vars p.dists),(65,[.ptr eb 0 0],if gOK p.vars p.groups=true then 0 else 1)] hb.length (by simp) _ (CU _ _) ?_).use ?_
 .intro x hx
  simp only[List.mem_cons,List.not_mem_nil,or_false] at hx;rcases hx with rfl|rfl|rfl|rfl
  .exact AWY G hG p hs eb _ ge2
  .exact AWX G hG p hs eb _ ge2
  .exact AWW G p hs eb _ ge2
  .exact AWV G p hs eb _ ge2
 .simp -implicitDefEqProofs only[vQ,jW,jI,jK,jV,BD,↓reduceIte]
  refine⟨?_,hx2⟩;simp only[PG,NJ];by_cases h1:LY p.vars≠0
  .rw[if_pos h1,if_pos h1]
  rw[if_neg h1,if_neg h1];by_cases h2:LP p.vars (p.hard++p.soft)≠0
  .rw[if_pos h2,if_pos h2]
  rw[if_neg h2,if_neg h2];by_cases h3:OH p.vars p.dists≠0
  .rw[if_pos h3,if_pos h3]
  rw[if_neg h3,if_neg h3];cases gOK p.vars p.groups<;>rfl
theorem AAG (p:Pr)(hs:PrS p)(h:Hp):PCall (En G) 22 [.agg (EE p)] h (.int .i64 (NJ p)):=by
 refine ACalls.pure0 rfl ?_;refine acN Tryz.func22 rfl ?_;show awp _ _ _ _ _ (EK _ [.tmp 2] _);have ge:=CU h (ABlk.live 5 [EE p]);have hxx:ext h (h++[ABlk.live 5 [EE p]]):=(ext.rfl' h).app _;simp -implicitDefEqProofs only[vQ,BD,↓reduceIte,jA,enP,KC,UN];generalize h++[ABlk.live 5 [EE p]]=hb at ge hxx|-;generalize h.length=eb at ge|-;have l0:DF Tryz.prog hb 22 (.ptr eb 0 0)=some (.sl p.vm 4 (p.vars.map FI)):=by rw[DJ TU ge (row:=EE p) rfl]; rfl
 have l1:DF Tryz.prog hb 23 (.ptr eb 0 1)=some (.sl p.hm 4 (p.hard.map EF)):=by rw[DJ VX ge (row:=EE p) rfl]; rfl
 have l2:DF Tryz.prog hb 23 (.ptr eb 0 2)=some (.sl p.sm 4 (p.soft.map EF)):=by rw[DJ VX ge (row:=EE p) rfl]; rfl
 have l3:DF Tryz.prog hb 24 (.ptr eb 0 3)=some (.sl p.dm 2 (p.dists.map LD)):=by rw[DJ A0G ge (row:=EE p) rfl]; rfl
 have l4:DF Tryz.prog hb 25 (.ptr eb 0 4)=some (.sl p.gm 1 (p.groups.map NV)):=by rw[DJ AXI ge (row:=EE p) rfl]; rfl
 have hex:=hs.exprs;have happ:LP p.vars (p.hard++p.soft)=if LP p.vars p.hard≠0 then LP p.vars p.hard else LP p.vars p.soft:=AJK _ _ _
 simp -implicitDefEqProofs only[vQ,BD,↓reduceIte,l0];refine(AEQ G p.vars p.vm hb hs.vars hs.names).use ?_;simp -implicitDefEqProofs only[vQ,BD,↓reduceIte,enP];refine C9 (fun h1=>?_) (fun h1=>?_)
 .simp -implicitDefEqProofs only[vQ,BD,↓reduceIte,jA]
  have h1:LY p.vars≠0:=by simpa using h1
  exact⟨by unfold NJ; rw[if_pos h1],hxx⟩
 have h1:¬LY p.vars≠0:=by simpa using h1
 simp -implicitDefEqProofs only[vQ,BD,↓reduceIte,jA,enP,KC,AS7,l0,l1];refine(U4 G p.vars p.vm hs.vars p.hard p.hm (by omega) (fun e he=>hs.wts e (qE.2 (.inl he))) hb).use ?_;simp -implicitDefEqProofs only[vQ,BD,↓reduceIte,enP];refine C9 (fun h2=>?_) (fun h2=>?_)
 .simp -implicitDefEqProofs only[vQ,BD,↓reduceIte,jA]
  have h2:LP p.vars p.hard≠0:=by simpa using h2
  rw[if_pos h2] at happ;exact⟨by unfold NJ; rw[if_neg h1,happ,if_pos h2],hxx⟩
 have h2:¬LP p.vars p.hard≠0:=by simpa using h2
 rw[if_neg h2] at happ;simp -implicitDefEqProofs only[vQ,BD,↓reduceIte,jA,enP,KC,AS6,l0,l2];refine(U4 G p.vars p.vm hs.vars p.soft p.sm (by omega) (fun e he=>hs.wts e (qE.2 (.inr he))) hb).use ?_;simp -implicitDefEqProofs only[vQ,BD,↓reduceIte,enP];refine C9 (fun h3=>?_) (fun h3=>?_)
 .simp -implicitDefEqProofs only[vQ,BD,↓reduceIte,jA]
  have h3:LP p.vars p.soft≠0:=by simpa using h3
  exact⟨by unfold NJ; rw[if_neg h1,happ,if_pos h3],hxx⟩
 have h3:¬LP p.vars p.soft≠0:=by simpa using h3
 simp -implicitDefEqProofs only[vQ,BD,↓reduceIte,jA,enP,KC,ALX,l0,l3];refine(AP2 G p.vars p.vm p.dists p.dm hs.vars hs.dists hs.ws hb).use ?_;simp -implicitDefEqProofs only[vQ,BD,↓reduceIte,enP];refine C9 (fun h4=>?_) (fun h4=>?_)
 .simp -implicitDefEqProofs only[vQ,BD,↓reduceIte,jA]
  have h4:OH p.vars p.dists≠0:=by simpa using h4
  exact⟨by unfold NJ; rw[if_neg h1,happ,if_neg h3,if_pos h4],hxx⟩
 have h4:¬OH p.vars p.dists≠0:=by simpa using h4
 simp -implicitDefEqProofs only[vQ,BD,↓reduceIte,jA,enP,KC,AAT,l0,l4];refine(ALS G p.vars p.vm p.groups p.gm hs.vars hs.groups hs.members hb).use ?_;simp -implicitDefEqProofs only[vQ,BD,↓reduceIte];refine C9 (fun h5=>?_) (fun h5=>?_)
 .simp -implicitDefEqProofs only[vQ,BD,↓reduceIte]
  have h5:¬gOK p.vars p.groups=true:=by simpa using h5
  exact⟨by unfold NJ; rw[if_neg h1,happ,if_neg h3,if_neg h4,if_neg h5],hxx⟩
 .simp -implicitDefEqProofs only[vQ,BD,↓reduceIte]
  have h5:gOK p.vars p.groups=true:=by simpa using h5
  exact⟨by unfold NJ; rw[if_neg h1,happ,if_neg h3,if_neg h4,if_pos h5],hxx⟩
end
end Go.Proofs.YtgnoolgeijmlaaaGreatDoor.Bd
namespace Go.Proofs.YtgnoolgeijmlaaaGreatDoor.Cov
open Sm Bins Go.Proofs.YtgnoolgeijmlaaaGreatDoor.Bd Go.RowKit
theorem cl3:Tryz.prog.cellsOf 3=1:=by kernel_rfl
theorem cl4:Tryz.prog.cellsOf 4=1:=by kernel_rfl
theorem cl9:Tryz.prog.cellsOf 9=1:=by kernel_rfl
theorem A5I:Tryz.prog.cellsOf 22=1:=by kernel_rfl
theorem AZ7:Tryz.prog.cellsOf 23=1:=by kernel_rfl
theorem A5H:Tryz.prog.cellsOf 24=1:=by kernel_rfl
theorem A5G:Tryz.prog.cellsOf 25=1:=by kernel_rfl
theorem A57:Tryz.prog.cellsOf 27=5:=by kernel_rfl
theorem A2M:Tryz.prog.cellsOf 37=4:=by kernel_rfl
theorem A5F:Tryz.prog.cellsOf 29=1:=by kernel_rfl
theorem A2T:Tryz.prog.cellsOf 139=1:=by kernel_rfl
theorem A2S:Tryz.prog.cellsOf 141=2:=by kernel_rfl
theorem A5C:Tryz.prog.cellsOf 65=4:=by kernel_rfl
theorem A2R:Tryz.prog.cellsOf 143=4:=by kernel_rfl
theorem rdI:Rd Tryz.prog 3 Bins.qencI okI:=AZC Tryz.underlying3
theorem rdStr:Rd Tryz.prog 9 encStr okS:=AZB Tryz.underlying9
theorem VH {α:Type}{ok:α->Nat->Prop}{xs:List α}{b:Nat}(h:∃b',b'+1<=b∧okL ok xs b'):okL ok xs b:=by obtain⟨b',h1,h2⟩:=h; exact h2.mono (by omega)
theorem AGV {t:TypeId}{f:Field}{fs:List Field}{α:Type}{enc:α->List AV}{ok:α->Nat->Prop}(hu:Tryz.prog.underlying t=some (.struct (f::fs).toArray)):RdAt Tryz.prog 1 t enc ok:=by
 intro H ench w cs d ps h;obtain⟨zs,m,hm,_,_,hl,hz⟩:=DataW.trod_struct hu h;obtain rfl:m=0:=by omega
 have:=hz 0 _ rfl;simp only[DataW.trod] at this
 have h0:zs=[]:=by cases zs with
  | nil=>rfl
  | cons a l=>simp at this
 subst h0; simp at hl
def okE (e:Ex)(b:Nat):Prop:=wt e<=b
theorem AI5:∀ {l:List Ex} {b:Nat},okL okE l b->wts l<=b
 | [],b,_=>Nat.zero_le _
 | x::xs,b,⟨b1,b2,h1,_,h3,h4⟩=>by
   have:=AI5 h4;simp only[wts]; unfold okE at h3; omega
theorem rdE:∀n:Nat,RdAt Tryz.prog n 37 EF okE:=by
 intro n
 induction n using Nat.strongRecOn with
 | _ n ih =>
   match n,ih with
   | 0,_=>exact RdAt.zero
   | 1,_=>exact AGV Tryz.underlying37
   | n+2,ih =>
     have rdA:RdAt Tryz.prog (n+1) 23 (fun x:SM×List Ex=>[.sl x.1 4 (x.2.map EF)]) (fun x b=>∃b',b'+1<=b∧okL okE x.2 b'):=P9 Tryz.underlying23 A2M (by decide) IZ (ih n (by omega))
     refine RdAt.map (fun x:Int×Int×ByteArray×(SM×List Ex)×Unit=>Ex.mk x.1 x.2.1 x.2.2.1 x.2.2.2.1.1 x.2.2.2.1.2)
      (PK Tryz.underlying37 (I7 rfl cl3 (fun _=>rfl) (rdI _) (I7 rfl cl3 (fun _=>rfl) (rdI _) (I7 rfl cl9 (fun _=>rfl) (rdStr _) (I7 rfl AZ7 (fun _=>rfl) rdA UC))))) (fun x=>by rw[O5]; rfl) ?_
     rintro⟨a,b,c,d,_⟩ N ⟨_,hN,b1,b2,hb,h1,b3,b4,hb2,h2,b5,b6,hb3,h3,b7,b8,hb4,⟨b9,h5,h6⟩,_⟩;have h7:=AI5 h6;unfold okS at h3;show wt _<=_;rw[QU];simp only[Ex.name,Ex.args];simp only at h3 h7;omega
def AVL (v:Vr)(b:Nat):Prop:=v.name.size<=b
theorem A4R:Rd Tryz.prog 65 FI AVL:=by
 intro n
 cases n with
 | zero=>exact RdAt.zero
 | succ n =>
   refine RdAt.map (fun x:ByteArray×Int×Int×Int×Unit=>(⟨x.1,x.2.1,x.2.2.1,x.2.2.2.1⟩:Vr)) (PK Tryz.underlying65 (I7 rfl cl9 (fun _=>rfl) (rdStr n) (I7 rfl cl3 (fun _=>rfl) (rdI n) (I7 rfl cl3 (fun _=>rfl) (rdI n) (I7 rfl cl3 (fun _=>rfl) (rdI n) UC))))) (fun _=>rfl) ?_;rintro⟨a,b,c,d,_⟩ N ⟨_,hN,b1,b2,hb,h1,_⟩;unfold okS at h1;show a.size<=N;simp only at h1;omega
theorem A4Q:Rd Tryz.prog 143 KP (fun _ _=>True):=by
 intro n
 cases n with
 | zero=>exact RdAt.zero
 | succ n=>exact RdAt.map (fun x:Int×Int×Int×Bool×Unit=>(⟨x.1,x.2.1,x.2.2.1,x.2.2.2.1⟩:Wg)) (PK Tryz.underlying143 (I7 rfl cl3 (fun _=>rfl) (rdI n) (I7 rfl cl3 (fun _=>rfl) (rdI n) (I7 rfl cl3 (fun _=>rfl) (rdI n) (I7 rfl cl4 (fun _=>rfl) (AVH Tryz.underlying4 n) UC))))) (fun _=>rfl) (fun _ _ _=>trivial)
def AVM (d:Ds)(b:Nat):Prop:=d.ws.length<=b
theorem A4U:Rd Tryz.prog 141 LD AVM:=by
 intro n
 match n with
 | 0=>exact RdAt.zero
 | 1=>exact AGV Tryz.underlying141
 | n+2 =>
   have rdW:RdAt Tryz.prog (n+1) 139 (fun x:SM×List Wg=>[.sl x.1 4 (x.2.map KP)]) (fun x b=>∃b',b'+1<=b∧okL (fun _ _=>True) x.2 b'):=P9 Tryz.underlying139 A2R (by decide) AA0 (A4Q n);refine RdAt.map (fun x:Int×(SM×List Wg)×Unit=>(⟨x.1,x.2.1.1,x.2.1.2⟩:Ds)) (PK Tryz.underlying141 (I7 rfl cl3 (fun _=>rfl) (rdI _) (I7 rfl A2T (fun _=>rfl) rdW UC))) (fun _=>rfl) ?_;rintro⟨a,b,_⟩ N ⟨_,hN,b1,b2,hb,h1,b3,b4,hb2,h2,_⟩;have:=(VH h2).length;show b.2.length<=N;simp only at this;omega
def ARV (g:Gp)(b:Nat):Prop:=g.l.length<=b
theorem A4T:Rd Tryz.prog 29 NV ARV:=by
 intro n
 cases n with
 | zero=>exact RdAt.zero
 | succ n=>exact RdAt.map (fun x:SM×List Int=>(⟨x.1,x.2⟩:Gp)) (P9 Tryz.underlying29 cl3 (by decide) (fun _=>rfl) (rdI n)) (fun _=>rfl) (fun x b h=>(VH h).length)
theorem AFM:∀ {l:List Gp} {b:Nat},okL ARV l b->(flG l).length<=b
 | [],b,_=>Nat.zero_le _
 | x::xs,b,⟨b1,b2,h1,_,h3,h4⟩=>by
   have:=AFM h4;unfold ARV at h3;show((x::xs).flatMap Gp.l).length<=b;rw[List.flatMap_cons,List.length_append];unfold flG at this;omega
def A1L (p:Pr)(b:Nat):Prop:=∃b1 b2 b3 b4 b5,b1+b2+b3+b4+b5<=b∧okL AVL p.vars b1∧okL okE p.hard b2∧okL okE p.soft b3∧okL AVM p.dists b4∧okL ARV p.groups b5
theorem A54:Rd Tryz.prog 27 EE A1L:=by
 intro n
 match n with
 | 0=>exact RdAt.zero
 | 1=>exact AGV Tryz.underlying27
 | n+2 =>
   have r1:RdAt Tryz.prog (n+1) 22 (fun x:SM×List Vr=>[.sl x.1 4 (x.2.map FI)]) (fun x b=>∃b',b'+1<=b∧okL AVL x.2 b'):=P9 Tryz.underlying22 A5C (by decide) ADX (A4R n);have r2:RdAt Tryz.prog (n+1) 23 (fun x:SM×List Ex=>[.sl x.1 4 (x.2.map EF)]) (fun x b=>∃b',b'+1<=b∧okL okE x.2 b'):=P9 Tryz.underlying23 A2M (by decide) IZ (rdE n);have r4:RdAt Tryz.prog (n+1) 24 (fun x:SM×List Ds=>[.sl x.1 2 (x.2.map LD)]) (fun x b=>∃b',b'+1<=b∧okL AVM x.2 b'):=P9 Tryz.underlying24 A2S (by decide) ADY (A4U n);have r5:RdAt Tryz.prog (n+1) 25 (fun x:SM×List Gp=>[.sl x.1 1 (x.2.map NV)]) (fun x b=>∃b',b'+1<=b∧okL ARV x.2 b'):=P9 Tryz.underlying25 A5F (by decide) (fun _=>rfl) (A4T n)
   refine RdAt.map (fun x:(SM×List Vr)×(SM×List Ex)×(SM×List Ex)×(SM×List Ds)×(SM×List Gp)×Unit=>(⟨x.1.1,x.1.2,x.2.1.1,x.2.1.2,x.2.2.1.1,x.2.2.1.2,x.2.2.2.1.1,x.2.2.2.1.2,x.2.2.2.2.1.1,x.2.2.2.2.1.2⟩:Pr))
    (PK Tryz.underlying27 (I7 rfl A5I (fun _=>rfl) r1 (I7 rfl AZ7 (fun _=>rfl) r2 (I7 rfl AZ7 (fun _=>rfl) r2 (I7 rfl A5H (fun _=>rfl) r4 (I7 rfl A5G (fun _=>rfl) r5 UC)))))) (fun _=>rfl) ?_
   rintro⟨a,b,c,d,e,_⟩ N ⟨_,hN,b1,b2,hb,h1,b3,b4,hb2,h2,b5,b6,hb3,h3,b7,b8,hb4,h4,b9,b10,hb5,h5,_⟩;exact⟨b1,b3,b5,b7,b9,by omega,VH h1,VH h2,VH h3,VH h4,VH h5⟩
theorem A4X {p:Pr}{b:Nat}(h:A1L p b)(hb:b<=1048576):PrS p:=by
 obtain⟨b1,b2,b3,b4,b5,h0,h1,h2,h3,h4,h5⟩:=h;have l1:=h1.length;have l2:=h2.length;have l3:=h3.length;have l4:=h4.length;have l5:=h5.length;have l6:=AFM h5;refine⟨by omega,fun v hv=>?_,by omega,fun e he=>?_,by omega,fun d hd=>?_,by omega,by omega⟩
 .obtain⟨b6,h6,h7⟩:=h1.each v hv
  unfold AVL at h7; omega
 .rcases List.mem_append.1 he with he|he
  .obtain⟨b6,h6,h7⟩:=h2.each e he
   unfold okE at h7; omega
  .obtain⟨b6,h6,h7⟩:=h3.each e he
   unfold okE at h7; omega
 .obtain⟨b6,h6,h7⟩:=h4.each d hd
  unfold AVM at h7; omega
end Go.Proofs.YtgnoolgeijmlaaaGreatDoor.Cov
namespace Go.Proofs.YtgnoolgeijmlaaaGreatDoor.Cov
open Sm Bins Go.RowKit
noncomputable def ASB (z:Int):Nat->AV:=fun n=>if n=0 then .fptr 1 [[.sl .any 1 (kw.map encStr)]] 0 0 else if n=1 then .fptr 1 [[.int .i64 z]] 0 0 else .junk
theorem A1Y (z:Int):GOk (ASB z):=⟨⟨.any,rfl⟩,z,rfl⟩
theorem ASD {H:Type}:(Rows.laid_testbench_lexer_keywords:DataW H)=.slice (kw.map fun s=>.lit (.string s.data.toList)) []:=rfl
theorem AUY {w:World}{g:Nat}{k:IntKind}{z:Int}(h:w.cell? ⟨g,0,none⟩=some (.int k z)):RepF (M0 w) (.fptr 1 [[.int k z]] 0 0) (.pointer (some ⟨g,0,none⟩)):=by
 simp only[World.cell?] at h;split at h
 case h_2=>simp at h
 rename_i cc ty fz hw;have hcc:cc[0]?=some (.int k z):=by simpa using h
 refine .fptr 1 [[.int k z]] 0 0 g 0 cc ty fz (fun _ _=>.int k z) hw ?_ ?_ ?_
 .intro i row hrow
  cases i with
  | zero =>
    simp at hrow; subst hrow;refine⟨rfl,fun j v hv=>?_⟩
    cases j with
    | zero=>simp at hv; subst hv; rfl
    | succ j=>simp at hv
  | succ i=>simp at hrow
 .intro i j hi hj
  obtain rfl:i=0:=by simpa using hi
  obtain rfl:j=0:=by omega
  exact hcc
 .intro i j row v hrow hv
  cases i with
  | zero =>
    simp at hrow; subst hrow
    cases j with
    | zero=>simp at hv; subst hv; exact .int _ _
    | succ j=>simp at hv
  | succ i=>simp at hrow
theorem A35 {W:World}(h:laidMetH Tryz.prog [("math/bits.deBruijn32tab",Rows.laid_math_bits_deBruijn32tab),("math/bits.deBruijn64tab",Rows.laid_math_bits_deBruijn64tab),("internal/strconv.uint64pow10",Rows.laid_internal_strconv_uint64pow10),("testbench/lexer.keywords",Rows.laid_testbench_lexer_keywords)] W) (hsh:W.ShapedOpen Tryz.prog) :
  ∃z,∀n,RepF (M0 W) (ASB z n) (.pointer (some ⟨n,0,none⟩)):=by
 rw[MakeChecks.laidMetH_plain _ _ _ (by kernel_rfl)] at h;obtain⟨ps,⟨_,_,_,_,_,_,_,_,_,_,⟨_,_,_,_,_,_,_,_,_,_,⟨_,_,_,_,_,_,_,_,_,_,⟨g3,t3,cs3,f3,p3,q3,hg3,ht3,hv3,hd3,_,_⟩,_⟩,_⟩,_⟩,_,_⟩:=h
 have hgk:Tryz.prog.globalNamed "testbench/lexer.keywords" = some 0:=by kernel_rfl
 have htk:(Tryz.prog.globals[0]?).map (·.type)=some 97:=by kernel_rfl
 obtain rfl:=Option.some.inj (hgk.symm.trans hg3);obtain rfl:=Option.some.inj (htk.symm.trans ht3);obtain⟨c,h1,h2⟩:=APO Tryz.underlying97 Tryz.underlying9 cl9 ASD hd3;obtain⟨z,hz⟩:=cell_of_shapedOpen_int (P:=Tryz.prog) (g:=1) (t:=3) (zero := #[.int .i64 0]) hsh (of_decide_eq_true (by kernel_rfl)) (by kernel_rfl) rfl (by kernel_rfl) (by kernel_rfl) Tryz.underlying3;refine⟨z,fun n=>?_⟩;unfold ASB;split
 .rename_i hn; subst hn
  exact AUX hg3 hv3 h1 h2 rfl
 .split
  .rename_i hn; subst hn
   exact AUY hz
  .exact .junk _
end Go.Proofs.YtgnoolgeijmlaaaGreatDoor.Cov
