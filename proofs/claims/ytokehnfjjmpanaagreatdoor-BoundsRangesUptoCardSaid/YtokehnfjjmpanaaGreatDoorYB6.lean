/- Part 6 of the proof (E7, E8, E9, E10); no condition. -/
import Derived.Test.YtokehnfjjmpanaaGreatDoorYB5
set_option linter.unusedVariables false
set_option linter.unusedSimpArgs false
set_option maxRecDepth 8000
namespace Go.Proofs.YtokehnfjjmpanaaGreatDoor.Cov
open Sm Bins Go.RowKit
open Bool renaming not_false→jC,or_false→jM
open List renaming map_cons→jF,map_nil→jD,append_nil→jE,length_cons→qF,length_map→jR,getElem_mem→jT,append_assoc→qA,take_of_length_le→jY,getElem?_append_left→zW,getElem?_set→jZ,length_append→qB,take_succ_cons→zT,contains_cons→jO,contains_nil→jP
open Nat renaming le_of_ble_eq_true→jJ,reduceEqDiff→jA,zero_add→jG,le_refl→jQ,reduceBEq→jI,add_zero→jH,reduceAdd→jL
open Option renaming getD_some→jB,getD_none→jK
theorem AJS (G:Nat→AV) (e:Ex):AM8 G 134 (fun _ z=>IntKind.i64.wrap (z+1)) (fun _=>true) e:=by
 intro h c z hc
 have hcl:=CS hc
 refine acN Tryz.func134 rfl ?_
 show awp _ _ _ _ _ (EN _ [.tmp 3] _)
 simp -implicitDefEqProofs only [BB,A8,BK,A7,CV,AZ,BA,AO,AQ,AL,BD,AY,AC,DU,AA,AX,AU,BH,BM,BC,FQ,BO,CU,BU,CB,AB,BZ,D6,BF,BQ,↓reduceIte,jA,jB,jC,enP,jK,bxE,I8 ag3 (DC hc),UI sz3 (X3 _ _) (DC hc)]
 exact ⟨trivial,(Chg.app c h _).trans (Chg.set c _ _),G7 (DC hc)⟩
theorem AID (G:Nat→AV) (hG:GOk G) (e:Ex) (hl:e.name.size≤1048576):AM8 G 88 (fun e _=>JH e) (fun z=>z == 0) e:=by
 intro h c z hc
 have hcl:=CS hc
 refine acN Tryz.func88 rfl ?_
 show awp _ _ _ _ _ (EN _ [.tmp 3] _)
 simp -implicitDefEqProofs only [BB,A8,A7,AZ,BA,AO,AQ,AL,BD,AY,AC,AA,AX,AU,BN,BM,BC,FQ,BO,BV,BP,CB,AB,BF,jF,jD,jE,↓reduceIte,jA,jB,jC,enP,bxE,ldE]
 refine (ANX G hG e _ hl).use ?_
 have hs:=G7 (y := .live 1 [[.int .i64 (JH e)]]) (DC (x := .live 4 [CW e]) hc)
 simp -implicitDefEqProofs only [BB,A8,BK,A7,CV,AZ,BA,AO,AQ,AL,BD,AY,AC,DU,AA,AX,AU,BH,BC,BO,CU,BU,AB,BZ,CX,BF,BQ,↓reduceIte,jA,jB,jC,enP,jK,UI AW6 (X3 _ _) (DC hc),I8 ASU hs]
 exact ⟨trivial,(Chg.app c h _).trans (Chg.set c _ _),hs⟩
theorem AHE : ∀ (xs:List Ex) (n:Nat),n+xs.length≤1099511627776→run (fun _ z=>IntKind.i64.wrap (z+1)) (fun _=>true) xs (n:Int)=(((n+xs.length:Nat):Int),true)
 | [],n,_=>rfl
 | x :: xs,n,h=>by
   simp only [qF] at h
   simp only [run,if_true]
   rw [wrap_succ (by omega),AHE xs (n+1) (by omega),qF]
   congr 1; omega
def errs (xs:List Ex):Int:=xs.foldl (fun z e=>if z=0 then JH e else z) 0
theorem AF7 : ∀ (xs:List Ex) (z:Int),z≠0→xs.foldl (fun z e=>if z=0 then JH e else z) z=z
 | [],_,_=>rfl
 | x :: xs,z,h=>by rw [List.foldl_cons,if_neg h]; exact AF7 xs z h
theorem AHF : ∀ (xs:List Ex),(run (fun e _=>JH e) (fun z=>z == 0) xs 0).1=errs xs
 | []=>rfl
 | x :: xs=>by
   simp only [run,errs,List.foldl_cons,if_true]
   rcases hn:(JH x == 0) with _ | _
   ·have:JH x≠0:=by simpa using hn
    rw [AF7 _ _ this]; rfl
   ·have:JH x=0:=by simpa using hn
    rw [this]; simp only [if_true]; exact AHF xs
theorem AP0 {x e:Ex} (hx:x∈pre e):x.name.size≤wt e:=by
 induction e using Ex.induct with | h e ih => ?_
 rw [pre_eq] at hx
 have hw:=PX e
 rcases List.mem_cons.1 hx with rfl | hx
 ·omega
 have : ∀ l:List Ex,(∀ a∈l,x∈pre a→x.name.size≤wt a)→x∈IZ l→x.name.size≤wts l:=by
  intro l
  induction l with
  | nil=>intro _ h; simp [IZ] at h
  | cons y l ih2 =>
    intro hh h
    simp only [IZ,List.mem_append] at h
    simp only [wts]
    rcases h with h | h
    ·have:=hh y (by simp) h; omega
    ·have:=ih2 (fun a ha=>hh a (by simp [ha])) h; omega
 have:=this e.args (fun a ha=>ih a ha) hx
 omega
theorem ANK (G:Nat→AV) (e:Ex) (h:Hp) (hw:wt e≤1099511627776):PCall (En G) 91 [.agg (CW e)] h (.int .i64 (pre e).length):=by
 refine ACalls.pure0 rfl ?_
 refine acN Tryz.func91 rfl ?_
 show awp _ _ _ _ _ (EN _ [.tmp 2] _)
 have hg:=DF (h ++ [ABlk.live 4 [CW e]]) (.live 1 [[.int .i64 0]])
 have hs:(h ++ [ABlk.live 4 [CW e]] ++ [ABlk.live 1 [[.int .i64 0]]]).set (h ++ [ABlk.live 4 [CW e]]).length (.live 1 [[.int .i64 0]])=h ++ [ABlk.live 4 [CW e]] ++ [ABlk.live 1 [[.int .i64 0]]]:=ALZ _ _ _
 simp -implicitDefEqProofs only [BB,A8,A7,AZ,BA,AO,AQ,AL,BD,AY,AC,DU,AA,AX,AU,BN,BH,BC,EZ,FQ,BO,CU,JQ,BV,BP,CB,AB,BZ,BF,jF,jD,jE,↓reduceIte,jA,jB,jC,enP,jK,bxE,al3,UI sz3 (X3 _ _) hg,hs,G6 (DC (DF h _))]
 refine (AD2 G 134 _ _ _ e hw (fun x _=>AJS G x) _ 0 hg).mono ?_
 rintro v h' ⟨hch,hc1⟩
 simp -implicitDefEqProofs only [BB,A8,BK,A7,CV,AZ,BA,AO,AQ,AL,BD,AY,AC,AA,AX,BC,BO,AB,↓reduceIte,jA,jB,jC,enP,I8 ag3 hc1]
 have:=AHE (pre e) 0 (by have:=QI e; omega)
 simp only [jG] at this
 exact ⟨by rw [show (0:Int)=((0:Nat):Int) from rfl,this],(((Chg.app _ h _).trans (Chg.app _ _ _)).trans hch).above (by simp)⟩
theorem AKY (G:Nat→AV) (e:Ex):wt e≤1099511627776→∀ h:Hp,PCall (En G) 90 [.agg (CW e)] h (.int .i64 (dep e)):=by
 induction e using Ex.induct with | h e ih => ?_
 intro hw h
 have hal:e.args.length≤1099511627776:=by have:=WB e.args; have:=PX e; omega
 refine ACalls.pure0 rfl ?_
 refine acN Tryz.func90 rfl ?_
 show awp _ _ _ _ _ (EN _ [.tmp 2] _)
 simp -implicitDefEqProofs only [BB,CE,A8,A7,AZ,BA,AO,AQ,AL,BD,AY,AC,AA,AX,AU,BH,BJ,BC,FQ,BO,BG,FP,CB,AB,BF,↓reduceIte,jA,jG,jB,jC,enP,TD,IJ,bxE,E5 NM,NE,jR]
 have hdw:dep e≤1099511627776:=Nat.le_trans (AR1 e) hw
 refine EG (fun n F H => ∃ j,n+j=e.args.length∧F 3 = .int .i64 (deps (e.args.take j):Nat)∧F 7 = .sl e.m 4 (e.args.map CW)∧F 8 = .int .i64 e.args.length∧F 9 = .int .i64 (j:Nat)∧∃ x,H=h ++ x) e.args.length ⟨0,by simp,by simp -implicitDefEqProofs only [AA,↓reduceIte,jA]; rfl,by simp -implicitDefEqProofs only [AA,↓reduceIte,jA],by simp -implicitDefEqProofs only [AA,↓reduceIte,jA],by simp -implicitDefEqProofs only [AA,↓reduceIte]; rfl,⟨_,rfl⟩⟩ ?_
 rintro n F H ⟨j,hj,f3,f7,f8,f9,x,rfl⟩
 simp -implicitDefEqProofs only [BB,A8,BI,A7,AZ,BA,AO,AQ,AL,BD,AY,AC,AA,AX,BU,AB,DV,↓reduceIte,jB,jC,enP,f8,f9]
 refine CQ (fun hlt => ?_) (fun hlt => ?_)
 ·have hj':j < e.args.length:=by simpa using hlt
  have hmem:e.args[j]∈e.args:=jT hj'
  simp -implicitDefEqProofs only [BB,CE,A8,BR,A7,AZ,BA,AO,AQ,AL,BD,AY,AC,DU,AA,AX,BN,BJ,EZ,BO,CU,CG,BV,BP,CB,AB,BZ,jF,jD,jE,↓reduceIte,jA,jB,jC,enP,LQ,jK,f3,f7,f9,EX hj',EU KJ JR ES hj',AI9,AJQ _ _ [.int .i64 0,.int .i64 0,.str ⟨#[]⟩,.sl .nil 0 []] rfl,ldE]
  refine (ih e.args[j] hmem (by have:=WA hmem; have:=PX e; omega) _).use ?_
  simp -implicitDefEqProofs only [A8,A7,EO,FO,AZ,BA,AO,AQ,AL,BD,AY,AC,AA,AX,AU,BH,BJ,BC,BU,Q8,AB,D6,NU,↓reduceIte,jA,jB,jC,enP,f7,f8,f9,wrap_succ (show j < 9223372036854775807 by omega)]
  refine ⟨n - 1,by omega,j+1,by omega,?_,trivial,trivial,rfl,_,by rw [qA]⟩
  rw [AER _ _ hj']
  congr 1
  omega
 ·have hj' : ¬ j < e.args.length:=by simpa using hlt
  rw [jY (by omega)] at f3
  rw [AGD] at hdw ⊢
  simp -implicitDefEqProofs only [BB,A8,BK,EF,A7,FC,F6,F8,CV,AZ,BA,AO,AQ,AL,BD,AY,AC,AA,AX,AU,BH,BJ,BC,BU,AB,D6,↓reduceIte,jA,jB,jC,enP,f3,wrap_succ (show deps e.args < 9223372036854775807 by omega)]
  exact ⟨trivial,x,rfl⟩
def exE (e:Ex):Int:=if errs (pre e)=0∧(24 < dep e∨400 < (pre e).length) then 2 else errs (pre e)
def WN (e:Ex):Prop:=wt e≤274877906944∧∀ x∈pre e,x.name.size≤1048576
theorem AE6 {e:Ex} (hw:wt e≤1048576):WN e:=⟨by omega,fun x hx=>by have:=AP0 hx; omega⟩
theorem TG (G:Nat→AV) (hG:GOk G) (e:Ex) (h:Hp) (hn:WN e):PCall (En G) 47 [.agg (CW e)] h (.int .i64 (exE e)):=by
 refine ACalls.pure0 rfl ?_
 refine acN Tryz.func47 rfl ?_
 show awp _ _ _ _ _ (EN _ [.tmp 2] _)
 have hg:=DF (h ++ [ABlk.live 4 [CW e]]) (.live 1 [[.int .i64 0]])
 have hs:(h ++ [ABlk.live 4 [CW e]] ++ [ABlk.live 1 [[.int .i64 0]]]).set (h ++ [ABlk.live 4 [CW e]]).length (.live 1 [[.int .i64 0]])=h ++ [ABlk.live 4 [CW e]] ++ [ABlk.live 1 [[.int .i64 0]]]:=ALZ _ _ _
 have hb:=DC (x:=ABlk.live 1 [[.int .i64 0]]) (DF h (.live 4 [CW e]))
 have hw:=hn.1
 simp -implicitDefEqProofs only [BB,A8,A7,AZ,BA,AO,AQ,AL,BD,AY,AC,DU,AA,AX,AU,BN,BH,BC,EZ,FQ,BO,CU,JQ,BV,BP,CB,AB,BZ,BF,jF,jD,jE,↓reduceIte,jA,jB,jC,enP,jK,bxE,A3N,UI AW6 (X3 _ _) hg,hs,G6 hb]
 refine (AD2 G 88 _ _ _ e (by omega) (fun x hx=>AID G hG x (hn.2 x hx)) _ 0 hg).mono ?_
 rintro v h' ⟨hch,hc1⟩
 rw [AHF] at hc1
 have hb':=hch.get hb (by simp)
 have hab:=(((Chg.app _ h _).trans (Chg.app _ _ _)).trans hch).above (show h.length≤(h ++ [ABlk.live 4 [CW e]]).length by simp)
 simp -implicitDefEqProofs only [BB,A8,A7,AZ,BA,BL,BX,CO,AO,AQ,AL,BD,AY,AC,AA,AX,AU,BH,BJ,BO,BU,AB,CX,↓reduceIte,jA,jB,jC,enP,I8 ASU hc1]
 rcases he:(errs (pre e) == 0) with _ | _
 ·simp -implicitDefEqProofs only [BB,A8,BR,BK,BI,A7,CV,DN,AZ,BA,BL,BX,CO,IP,W9,AO,AQ,AL,BD,AY,AC,AA,EQ,AX,AU,BM,BC,CP,DZ,BO,AB,↓reduceIte,jA,jB,jC,enP,I8 ASU hc1]
  have:errs (pre e)≠0:=by simpa using he
  exact ⟨by unfold exE; rw [if_neg (fun hh=>this hh.1)],hab⟩
 have he0:errs (pre e)=0:=by simpa using he
 simp -implicitDefEqProofs only [BL,BX,CO,GL,AO,AQ,AL,BD,AY,AC,AA,AX,BN,BO,BV,BP,AB,jF,jD,jE,↓reduceIte,jA,jB,jC,enP,G6 hb']
 refine (AKY G e (by omega) _).use ?_
 simp -implicitDefEqProofs only [BL,BX,CO,GL,AO,AQ,AL,BD,AY,AC,AA,AX,AU,BH,BJ,BU,AB,FM,↓reduceIte,jA,jB,jC,enP]
 refine IA (fun hd => ?_) (fun hd => ?_)
 ·simp -implicitDefEqProofs only [BB,A8,BK,BI,A7,CJ,CV,DI,AZ,BA,BL,BX,CO,GL,F7,AO,AQ,AL,BD,AY,AC,AA,EQ,AX,AU,BH,BM,BC,CP,DW,↓reduceIte,jA,jB,jC,hd]
  exact ⟨by unfold exE; rw [if_pos ⟨he0,.inl (by simp at hd; omega)⟩],hab⟩
 simp -implicitDefEqProofs only [BL,BX,CO,EY,AO,AQ,AL,BD,AY,AC,AA,AX,BN,BO,BV,BP,AB,jF,jD,jE,↓reduceIte,jA,jB,jC,enP,hd,G6 hb']
 refine (ANK G e _ (by omega)).use ?_
 simp -implicitDefEqProofs only [BI,A7,AZ,BA,BL,BX,CO,GL,EY,AO,AQ,AL,BD,AY,AC,AA,AX,AU,BH,BM,CP,DW,DZ,BU,AB,FM,↓reduceIte,jA,jB,jC,enP]
 refine CQ (fun hn => ?_) (fun hn => ?_)
 ·simp -implicitDefEqProofs only [BB,A8,BK,A7,CJ,CV,AZ,BA,AO,AQ,AL,BD,AY,AC,AA,AU,BH,BC,↓reduceIte,jB,jC]
  exact ⟨by unfold exE; rw [if_pos ⟨he0,.inr (by simp at hn; omega)⟩],hab⟩
 ·simp -implicitDefEqProofs only [BB,A8,BR,BK,A7,CV,AZ,BA,AO,AQ,AL,BD,AY,AC,AA,AX,BC,BO,AB,↓reduceIte,jA,jB,jC,enP,I8 ASU hc1]
  exact ⟨by unfold exE; rw [if_neg (fun hh=>by simp at hn hd; omega)],hab⟩
theorem AF6 (G:Nat→AV) (hG:GOk G) (e:Ex) (h:Hp) (hw:wt e≤1048576):PCall (En G) 47 [.agg (CW e)] h (.int .i64 (exE e)):=TG G hG e h (AE6 hw)
theorem OU {E:Env} {H:Hint} {x y:Code} {F:Fr} {h:Hp} {Q:AEx→Fr→Hp→Prop} {b:Bool} (N R:Fr→Hp→Prop) (h1:b=true→awp E H x F h (AUE N R)) (h2:b=false→awp E H y F h (AUE N R)) (hn : ∀ F h,N F h→Q .normal F h) (hr : ∀ F h,R F h→Q .ret F h) :
 AC2 E H x y F h Q (.bool b):=⟨fun e=>QX N R (h1 e) hn hr,fun e=>QX N R (h2 e) hn hr⟩
def isB (v:AV) (b:Nat):Prop:=match v with
 | .own b' _ _=>b'=b
 | _=>False
def sv (h:Hp) (m:Nat) (v:AV):Prop := ∃ vs:List ByteArray,vs.length≤m∧((vs = []∧∃ k,v = .sl .nil k [])∨∃ b,v = .own b 0 vs.length∧h[b]? = some (.live 1 (vs.map encStr)))
theorem AUY (G:Nat→AV) (k:Nat) (v:ByteArray) (h:Hp):PCall (En G) 180 [.sl .nil k [],.str v] h (.bool false):=by
 refine acN Tryz.func180 rfl ?_
 show awp _ _ _ _ _ (EN _ [.tmp 4] _)
 simp -implicitDefEqProofs only [BB,CE,A8,A7,AZ,BA,AO,AQ,AL,BD,AY,AC,AU,BH,BM,BC,jB,jC,enX,enP]
 refine EG (fun n F H=>F 0 = .sl .nil k []∧F 5 = .int .i64 0∧H=h) 0 ⟨rfl,rfl,rfl⟩ ?_
 rintro n F H ⟨f0,f5,rfl⟩
 simp -implicitDefEqProofs only [BB,A8,BI,A7,AZ,BA,AO,AQ,AL,BD,AY,AC,AA,AX,BJ,BU,FP,AB,DV,↓reduceIte,jA,jB,jC,enP,AAN,f0,f5,List.length_nil]
 have:decide ((0:Int) < ((0:Nat):Int))=false:=by simp
 simp -implicitDefEqProofs only [BB,A8,BK,EF,A7,FC,F6,F8,CV,DN,AZ,BA,AO,AQ,AL,BD,AY,AC,AA,AU,BM,BC,↓reduceIte,jB,jC,this]
 exact ⟨trivial,trivial⟩
theorem ABF {α:Type} {f:α→List AV} {xs:List α} {k:Nat} (hk:k < xs.length):(xs.map f)[k]? = some (f xs[k]):=by
 rw [List.getElem?_map,List.getElem?_eq_getElem hk]; rfl
theorem U0 {h x:Hp} {y:ABlk} {b:Nat} (hb:h[b]? = some y):(h ++ x)[b]? = some y:=by
 rw [zW (CS hb)]; exact hb
theorem AUX (G:Nat→AV) (xs:List ByteArray) (b:Nat) (v:ByteArray) (h:Hp) (hb:h[b]? = some (.live 1 (xs.map encStr))) (hl:xs.length≤1099511627776) :
  PCall (En G) 180 [.own b 0 xs.length,.str v] h (.bool (MN xs v)):=by
 refine acN Tryz.func180 rfl ?_
 show awp _ _ _ _ _ (EN _ [.tmp 4] _)
 simp -implicitDefEqProofs only [BB,CE,A8,A7,AZ,BA,AO,AQ,AL,BD,AY,AC,AU,BH,BM,BC,jB,jC,enX,enP]
 refine EG (fun n F H => ∃ k,n+k=xs.length∧F 0 = .own b 0 xs.length∧F 1 = .str v∧F 5 = .int .i64 (k:Nat)∧H=h∧MN xs v=MN (xs.drop k) v) xs.length ⟨0,by simp,rfl,rfl,rfl,rfl,rfl⟩ ?_
 rintro n F H ⟨k,hk,f0,f1,f5,rfl,hin⟩
 simp -implicitDefEqProofs only [BB,A8,BI,A7,AZ,BA,AO,AQ,AL,BD,AY,AC,AA,AX,BJ,BU,FP,AB,DV,↓reduceIte,jA,jB,jC,enP,AAN,f0,f1,f5]
 refine CQ (fun hc => ?_) (fun hc => ?_)
 ·have hc':k < xs.length:=by simpa using hc
  have hs:MN (xs.drop k) v=((v.toList == xs[k].toList) || MN (xs.drop (k+1)) v):=ADE _ xs k hc'
  have l1:DR Tryz.prog H 9 (.ptr b k 0)=some (.str xs[k]):=by rw [DJ ag9 hb (row:=encStr xs[k]) (ABF hc')]; rfl
  simp -implicitDefEqProofs only [BB,CE,A8,BR,BI,A7,AZ,BA,AO,AQ,AL,BD,AY,AC,AA,AX,BJ,BO,BU,CG,AB,KY,↓reduceIte,jA,jG,jB,jC,enP,AH2,f0,f1,f5,JK hb hc',l1]
  refine CQ (fun hb => ?_) (fun hb => ?_)
  ·simp -implicitDefEqProofs only [BB,A8,BK,A7,CJ,D8,F9,CV,AZ,BA,AO,AQ,AL,BD,AY,AC,AA,AU,BM,BC,↓reduceIte,jB,jC]
   refine ⟨?_,trivial⟩
   rw [hin,hs,show (v.toList == xs[k].toList)=true by rw [BEq.comm]; exact hb]; rfl
  ·simp -implicitDefEqProofs only [A8,BR,A7,EO,FO,AZ,BA,AO,AQ,AL,BD,AY,AC,AA,AX,AU,BH,BJ,BC,BU,AB,D6,↓reduceIte,jA,jB,jC,enP,f5,wrap_succ (show k < 9223372036854775807 by omega)]
   refine ⟨n - 1,by omega,k+1,by omega,f0,f1,rfl,trivial,?_⟩
   rw [hin,hs,show (v.toList == xs[k].toList)=false by rw [BEq.comm]; exact hb]; rfl
 ·have hc' : ¬ k < xs.length:=by simpa using hc
  simp -implicitDefEqProofs only [BB,A8,BK,EF,A7,FC,F6,F8,CV,AZ,BA,AO,AQ,AL,BD,AY,AC,AA,AU,BM,BC,↓reduceIte,jB,jC]
  exact ⟨by rw [hin,List.drop_eq_nil_of_le (by omega)]; rfl,trivial⟩
theorem AQ6 (G:Nat→AV) {h:Hp} {m:Nat} {v:AV} (s:ByteArray) (hv:sv h m v) (hm:m≤1099511627776) : ∃ r,PCall (En G) 180 [v,.str s] h (.bool r):=by
 obtain ⟨vs,hl,⟨_,k,rfl⟩ | ⟨b,rfl,hb⟩⟩:=hv
 ·exact ⟨_,AUY G k s h⟩
 ·exact ⟨_,AUX G vs b s h hb (by omega)⟩
theorem AR9 (h:Hp) (s:ByteArray):GN Tryz.prog false h 120 1 [(0,.str s)]=some (.sl .full 1 [[.str s]],h):=by kernel_rfl
theorem ASR {h:Hp} {m:Nat} {v:AV} (s:ByteArray) (hv:sv h m v) (hm:m≤1099511627776) : ∃ v' h',IU Tryz.prog true h 120 120 v (.sl .full 1 [[.str s]])=some (v',h')∧sv h' (m+1) v'∧(∀ b,isB v' b→b=h.length) ∧
  h.length≤h'.length∧∀ b,b < h.length→¬ isB v b→h'[b]? = h[b]? := by
 obtain ⟨vs,hl,⟨rfl,k,rfl⟩ | ⟨b,rfl,hb⟩⟩:=hv
 ·refine ⟨_,_,AGL APN sz9 AO5 AR7 (QC h .full 1 [[.str s]]) (by simp) (PV (by simp) (by omega)),⟨[s],by simp,.inr ⟨h.length,rfl,DF _ _⟩⟩,fun b hb=>hb.symm,by simp,fun b hb _=>zW hb⟩
 ·have hc:KO h (.own b 0 vs.length)=some (1,vs.map encStr):=by
   rw [TY hb (by simp),List.drop_zero,jY (by simp)]
  refine ⟨_,_,AGK APN sz9 AO5 AR7 hc (QC h .full 1 [[.str s]]) (by simp) (by unfold room; simp; omega),⟨vs ++ [s],by simp; omega,.inr ⟨h.length,by simp,by simp [encStr]⟩⟩,fun b hb=>hb.symm,by simp,fun o ho hn => ?_⟩
  rw [zW (by simpa using ho)]
  have hn' : ¬ b=o:=hn
  rw [jZ,if_neg hn']
def wRow (n dd:Nat) (f:Int) (v1 v2:AV):List AV := [.int .i64 n,.int .i64 dd,.int .i64 f,v1,v2]
structure St (h:Hp) (c m1 m2 n dd:Nat) (f:Int) (v1 v2:AV):Prop where
 w:h[c]? = some (.live 5 [wRow n dd f v1 v2])
 s1:sv h m1 v1
 s2:sv h m2 v2
 ap : ∀ b,isB v1 b→¬ isB v2 b
theorem sv.b {h:Hp} {m:Nat} {v:AV} {b:Nat} (hs:sv h m v) (hb:isB v b) : ∃ vs:List ByteArray,h[b]? = some (.live 1 (vs.map encStr)):=by
 obtain ⟨vs,_,⟨_,k,rfl⟩ | ⟨b',rfl,h'⟩⟩:=hs
 ·exact hb.elim
 ·cases hb; exact ⟨vs,h'⟩
theorem sv.ne {h:Hp} {m b c:Nat} {v:AV} {row:List AV} (hs:sv h m v) (hc:h[c]? = some (.live 5 [row])) (hb:isB v b):b≠c:=by
 intro e; subst e
 obtain ⟨vs,h'⟩:=hs.b hb
 rw [h'] at hc; cases hc
theorem sv.keep {h h':Hp} {m m':Nat} {v:AV} (hs:sv h m v) (hm:m≤m') (hk : ∀ b,isB v b→h'[b]? = h[b]?):sv h' m' v:=by
 obtain ⟨vs,hl,⟨e,k,rfl⟩ | ⟨b,rfl,hb⟩⟩:=hs
 ·exact ⟨vs,by omega,.inl ⟨e,k,rfl⟩⟩
 ·exact ⟨vs,by omega,.inr ⟨b,rfl,by rw [hk b rfl]; exact hb⟩⟩
structure Ch (c:Nat) (v1 v2:AV) (h:Hp) (v1' v2':AV) (h':Hp):Prop where
 len:h.length≤h'.length
 get : ∀ b,b < h.length→b≠c→¬ isB v1 b→¬ isB v2 b→h'[b]? = h[b]?
 n1 : ∀ b,isB v1' b→isB v1 b∨h.length≤b
 n2 : ∀ b,isB v2' b→isB v2 b∨h.length≤b
theorem Ch.refl (c:Nat) (v1 v2:AV) (h:Hp):Ch c v1 v2 h v1 v2 h:=⟨jQ _,fun _ _ _ _ _=>rfl,fun _ h => .inl h,fun _ h => .inl h⟩
theorem Ch.trans {c:Nat} {v1 v2 u1 u2 w1 w2:AV} {a b d:Hp} (h1:Ch c v1 v2 a u1 u2 b) (h2:Ch c u1 u2 b w1 w2 d):Ch c v1 v2 a w1 w2 d:=by
 refine ⟨Nat.le_trans h1.len h2.len,fun i hi hc hv hu => ?_,fun i hi => ?_,fun i hi => ?_⟩
 ·rw [h2.get i (Nat.lt_of_lt_of_le hi h1.len) hc (fun e=>(h1.n1 i e).elim hv (fun e=>by omega)) (fun e=>(h1.n2 i e).elim hu (fun e=>by omega)),h1.get i hi hc hv hu]
 ·rcases h2.n1 i hi with h | h
  ·exact h1.n1 i h
  ·exact .inr (Nat.le_trans h1.len h)
 ·rcases h2.n2 i hi with h | h
  ·exact h1.n2 i h
  ·exact .inr (Nat.le_trans h1.len h)
theorem Ch.app (c:Nat) (v1 v2:AV) (h x:Hp):Ch c v1 v2 h v1 v2 (h ++ x):=⟨by simp,fun _ hi _ _ _=>zW hi,fun _ h => .inl h,fun _ h => .inl h⟩
theorem Ch.set (c:Nat) (v1 v2:AV) (h:Hp) (x:ABlk):Ch c v1 v2 h v1 v2 (h.set c x):=⟨by simp,fun _ _ hc _ _=>by rw [jZ,if_neg (fun e=>hc e.symm)],fun _ h => .inl h,fun _ h => .inl h⟩
theorem St.app {h:Hp} {c m1 m2 n dd:Nat} {f:Int} {v1 v2:AV} (s:St h c m1 m2 n dd f v1 v2) (x:Hp):St (h ++ x) c m1 m2 n dd f v1 v2:=by
 have keep : ∀ v m,sv h m v→sv (h ++ x) m v:=fun v m hv=>hv.keep (jQ _) fun b hb=>by
  obtain ⟨vs,h'⟩:=hv.b hb
  exact zW (CS h')
 exact ⟨U0 s.w,keep _ _ s.s1,keep _ _ s.s2,s.ap⟩
theorem St.set {h:Hp} {c m1 m2 n dd:Nat} {f:Int} {v1 v2:AV} (s:St h c m1 m2 n dd f v1 v2) (n' dd':Nat) (f':Int):St (h.set c (.live 5 [wRow n' dd' f' v1 v2])) c m1 m2 n' dd' f' v1 v2:=by
 have keep : ∀ v m,sv h m v→sv (h.set c (.live 5 [wRow n' dd' f' v1 v2])) m v:=fun v m hv=>hv.keep (jQ _) fun b hb=>by
  rw [jZ,if_neg (fun e=>hv.ne s.w hb e.symm)]
 exact ⟨G7 s.w,keep _ _ s.s1,keep _ _ s.s2,s.ap⟩
section
variable {h:Hp} {c m1 m2 n dd:Nat} {f:Int} {v1 v2:AV} (s:St h c m1 m2 n dd f v1 v2)
include s
theorem St.l0:DR Tryz.prog h 3 (.ptr c 0 0)=some (.int .i64 n):=by rw [DJ ag3 s.w (row:=wRow n dd f v1 v2) rfl]; rfl
theorem St.l1:DR Tryz.prog h 3 (.ptr c 0 1)=some (.int .i64 dd):=by rw [DJ ag3 s.w (row:=wRow n dd f v1 v2) rfl]; rfl
theorem St.l2:DR Tryz.prog h 35 (.ptr c 0 2)=some (.int .i64 f):=by rw [DJ ASU s.w (row:=wRow n dd f v1 v2) rfl]; rfl
theorem St.l3:DR Tryz.prog h 120 (.ptr c 0 3)=some v1:=by rw [DJ AE1 s.w (row:=wRow n dd f v1 v2) rfl]; rfl
theorem St.l4:DR Tryz.prog h 120 (.ptr c 0 4)=some v2:=by rw [DJ AE1 s.w (row:=wRow n dd f v1 v2) rfl]; rfl
theorem St.t0 (x:Nat):GM Tryz.prog h 3 (.ptr c 0 0) (.int .i64 x)=some (h.set c (.live 5 [wRow x dd f v1 v2])):=by
 rw [I5 (X3 _ _) sz3 s.w (row:=wRow n dd f v1 v2) rfl (by simp [wRow])]; rfl
theorem St.t1 (x:Nat):GM Tryz.prog h 3 (.ptr c 0 1) (.int .i64 x)=some (h.set c (.live 5 [wRow n x f v1 v2])):=by
 rw [I5 (X3 _ _) sz3 s.w (row:=wRow n dd f v1 v2) rfl (by simp [wRow])]; rfl
theorem St.t2 (x:Int):GM Tryz.prog h 35 (.ptr c 0 2) (.int .i64 x)=some (h.set c (.live 5 [wRow n dd x v1 v2])):=by
 rw [I5 (X3 _ _) AW6 s.w (row:=wRow n dd f v1 v2) rfl (by simp [wRow])]; rfl
end
theorem St.app3 {h:Hp} {c m1 m2 n dd:Nat} {f:Int} {v1 v2:AV} (s:St h c m1 m2 n dd f v1 v2) (x:ByteArray) (hm:m1≤1099511627776) :
  ∃ v' h',IU Tryz.prog true h 120 120 v1 (.sl .full 1 [[.str x]])=some (v',h')∧GM Tryz.prog h' 120 (.ptr c 0 3) v'=some (h'.set c (.live 5 [wRow n dd f v' v2])) ∧
    St (h'.set c (.live 5 [wRow n dd f v' v2])) c (m1+1) m2 n dd f v' v2∧Ch c v1 v2 h v' v2 (h'.set c (.live 5 [wRow n dd f v' v2])):=by
 obtain ⟨v',h',ha,hs,hb,hl,hk⟩:=ASR x s.s1 hm
 have hc1 : ¬ isB v1 c:=fun e=>s.s1.ne s.w e rfl
 have hc2 : ¬ isB v2 c:=fun e=>s.s2.ne s.w e rfl
 have hcl:=CS s.w
 have hw:h'[c]? = some (.live 5 [wRow n dd f v1 v2]):=by rw [hk c hcl hc1]; exact s.w
 have hvc : ∀ b,isB v' b→b≠c:=fun b hb' e=>by have:=hb b hb'; omega
 have hac:JL v'=some [v']:=by
  obtain ⟨vs,_,⟨_,k,rfl⟩ | ⟨b,rfl,_⟩⟩:=hs <;> rfl
 refine ⟨v',h',ha,by rw [I5 hac APS hw (row:=wRow n dd f v1 v2) rfl (by simp [wRow])]; rfl,⟨G7 hw,hs.keep (jQ _) fun b hb' => ?_,s.s2.keep (jQ _) fun b hb' => ?_,fun b h1 h2 => ?_⟩,⟨by simpa using hl,fun b hbl hne h1 h2 => ?_,fun b hb' => .inr (by rw [hb b hb']; exact jQ _),fun b hb' => .inl hb'⟩⟩
 ·rw [jZ,if_neg (fun e=>hvc b hb' e.symm)]
 ·obtain ⟨_,hx⟩:=s.s2.b hb'
  rw [jZ,if_neg (fun e=>hc2 (by rw [e]; exact hb')),hk b (CS hx) (fun e=>s.ap b e hb')]
 ·obtain ⟨_,hx⟩:=s.s2.b h2
  have:=hb b h1; have:=CS hx; omega
 ·rw [jZ,if_neg (fun e=>hne e.symm),hk b hbl h1]
theorem St.app4 {h:Hp} {c m1 m2 n dd:Nat} {f:Int} {v1 v2:AV} (s:St h c m1 m2 n dd f v1 v2) (x:ByteArray) (hm:m2≤1099511627776) :
  ∃ v' h',IU Tryz.prog true h 120 120 v2 (.sl .full 1 [[.str x]])=some (v',h')∧GM Tryz.prog h' 120 (.ptr c 0 4) v'=some (h'.set c (.live 5 [wRow n dd f v1 v'])) ∧
    St (h'.set c (.live 5 [wRow n dd f v1 v'])) c m1 (m2+1) n dd f v1 v'∧Ch c v1 v2 h v1 v' (h'.set c (.live 5 [wRow n dd f v1 v'])):=by
 obtain ⟨v',h',ha,hs,hb,hl,hk⟩:=ASR x s.s2 hm
 have hc1 : ¬ isB v1 c:=fun e=>s.s1.ne s.w e rfl
 have hc2 : ¬ isB v2 c:=fun e=>s.s2.ne s.w e rfl
 have hcl:=CS s.w
 have hw:h'[c]? = some (.live 5 [wRow n dd f v1 v2]):=by rw [hk c hcl hc2]; exact s.w
 have hvc : ∀ b,isB v' b→b≠c:=fun b hb' e=>by have:=hb b hb'; omega
 have hac:JL v'=some [v']:=by
  obtain ⟨vs,_,⟨_,k,rfl⟩ | ⟨b,rfl,_⟩⟩:=hs <;> rfl
 refine ⟨v',h',ha,by rw [I5 hac APS hw (row:=wRow n dd f v1 v2) rfl (by simp [wRow])]; rfl,⟨G7 hw,s.s1.keep (jQ _) fun b hb' => ?_,hs.keep (jQ _) fun b hb' => ?_,fun b h1 h2 => ?_⟩,⟨by simpa using hl,fun b hbl hne h1 h2 => ?_,fun b hb' => .inl hb',fun b hb' => .inr (by rw [hb b hb']; exact jQ _)⟩⟩
 ·obtain ⟨_,hx⟩:=s.s1.b hb'
  rw [jZ,if_neg (fun e=>hc1 (by rw [e]; exact hb')),hk b (CS hx) (fun e=>s.ap b hb' e)]
 ·rw [jZ,if_neg (fun e=>hvc b hb' e.symm)]
 ·obtain ⟨_,hx⟩:=s.s1.b h1
  have:=hb b h2; have:=CS hx; omega
 ·rw [jZ,if_neg (fun e=>hne e.symm),hk b hbl h2]
def WX (z:Int) (xs:List Ex):Int:=xs.foldl (fun z e=>if z=0 then JH e else z) z
theorem AIH (z:Int) (xs ys:List Ex):WX z (xs ++ ys)=WX (WX z xs) ys:=List.foldl_append
theorem St.weak {h:Hp} {c m1 m2 m1' m2' n dd:Nat} {f:Int} {v1 v2:AV} (s:St h c m1 m2 n dd f v1 v2) (h1:m1≤m1') (h2:m2≤m2'):St h c m1' m2' n dd f v1 v2 :=
 ⟨s.w,s.s1.keep h1 fun _ _=>rfl,s.s2.keep h2 fun _ _=>rfl,s.ap⟩
def Md (e:Ex) (c d:Nat) (v1 v2:AV) (h:Hp) (m1 m2 n dd:Nat) (f:Int) (F:Nat→AV) (H:Hp):Prop :=
 F 0 = .ptr c 0 0∧F 2 = .int .i64 (d:Nat)∧F 4 = .ptr h.length 0 0∧∃ u1 u2,St H c m1 m2 n dd f u1 u2∧Ch c v1 v2 (h ++ [.live 4 [CW e]]) u1 u2 H
theorem AHO (xs:List Ex):(IZ xs).length≤wts xs:=by
 induction xs with
 | nil=>simp [IZ,wts]
 | cons x xs ih=>have:=QI x; simp only [IZ,wts,qB]; omega
theorem AGV : ∀ (xs:List Ex) (j:Nat) (hj:j < xs.length),wts (xs.take j)+wt xs[j]≤wts xs
 | x :: xs,0,_=>by simp [wts]
 | x :: xs,j+1,h=>by
   have:=AGV xs j (by simpa using h)
   simp only [zT,wts,List.getElem_cons_succ]; omega
theorem YY : ∀ (xs:List Ex) (j:Nat),deps (xs.take j)≤wts xs
 | [],j=>by simp [deps,wts]
 | x :: xs,0=>by simp [deps]
 | x :: xs,j+1=>by
   have h1:=YY xs j
   have h2:=AR1 x
   simp only [zT,deps,wts]; omega
theorem ATQ (G:Nat→AV) (c:Nat) (e:Ex):WN e→∀ (h:Hp) (d n dd:Nat) (f:Int) (v1 v2:AV),d+wt e≤549755813888→n+wt e≤549755813888→dd≤1099511627776→St h c n n n dd f v1 v2 →
  ACalls (En G) 148 [.ptr c 0 0,.agg (CW e),.int .i64 (d:Nat)] h fun _ h' => ∃ u1 u2,St h' c (n+(pre e).length) (n+(pre e).length) (n+(pre e).length) (max dd (d+deps e.args)) (WX f (pre e)) u1 u2∧Ch c v1 v2 h u1 u2 h':=by
 induction e using Ex.induct with | h e ih => ?_
 intro hwn h d n dd f v1 v2 hd hn hdd s
 have hw:=hwn.1
 have hnm:e.name.size≤1048576:=hwn.2 e (by rw [pre_eq]; simp)
 have hal:e.args.length≤wts e.args:=WB e.args
 have hwe:=PX e
 have hcl:=CS s.w
 have hbox : ∀ (u1 u2:AV) (H:Hp),Ch c v1 v2 (h ++ [.live 4 [CW e]]) u1 u2 H→H[h.length]? = some (.live 4 [CW e]):=by
  intro u1 u2 H hC
  rw [hC.get h.length (by simp) (by omega) (fun hb => ?_) (fun hb => ?_)]
  ·exact DF _ _
  ·obtain ⟨_,hx⟩:=s.s1.b hb
   have:=CS hx; omega
  ·obtain ⟨_,hx⟩:=s.s2.b hb
   have:=CS hx; omega
 have lb0 : ∀ H:Hp,H[h.length]? = some (.live 4 [CW e])→DR Tryz.prog H 3 (.ptr h.length 0 0)=some (.int .i64 e.op):=fun H hH=>by rw [DJ ag3 hH (row:=CW e) rfl,JC]
 have lb2 : ∀ H:Hp,H[h.length]? = some (.live 4 [CW e])→DR Tryz.prog H 9 (.ptr h.length 0 2)=some (.str e.name):=fun H hH=>by rw [DJ ag9 hH (row:=CW e) rfl,OB]
 have lb3 : ∀ H:Hp,H[h.length]? = some (.live 4 [CW e])→DR Tryz.prog H 23 (.ptr h.length 0 3)=some (.sl e.m 4 (e.args.map CW)):=fun H hH=>by rw [DJ NM hH (row:=CW e) rfl,NE]
 refine IM (H:=hint [56,85] []) (enM G) Tryz.func148 rfl (by kernel_rfl) (by kernel_rfl) (jJ (by kernel_rfl)) ?_
 show awp _ _ _ _ _ (EN _ [] _)
 have s0:=s.app [.live 4 [CW e]]
 have c0:=Ch.app c v1 v2 h [.live 4 [CW e]]
 simp -implicitDefEqProofs only [D5,jO,jP,jI,jM,BB,A8,A7,AZ,BA,AL,BD,AY,AC,DU,AA,AX,AU,BH,BJ,FQ,BO,CU,BU,BG,CB,AB,BZ,D6,BF,BQ,↓reduceIte,jA,jH,jG,jB,jC,enP,AMN,AF5,ED,jK,EM,EW,bxE,s0.l0,wrap_succ (show n < 9223372036854775807 by omega),s0.t0]
 have s1:=s0.set (n+1) dd f
 have c1:=Ch.set c v1 v2 (h ++ [.live 4 [CW e]]) (.live 5 [wRow (n+1) dd f v1 v2])
 clear s0
 generalize (h ++ [ABlk.live 4 [CW e]]).set c (.live 5 [wRow (n+1) dd f v1 v2])=H1 at s1 c1 ⊢
 simp -implicitDefEqProofs only [D5,jO,jP,jI,jM,BI,A7,AZ,BA,AL,BD,AY,AC,AA,AX,BU,AB,FM,↓reduceIte,jA,jB,jC,enP,ED,s1.l1]
 refine OU (Md e c d v1 v2 h n n (n+1) (max dd d) f) (fun _ _=>False) (fun hb => ?_) (fun hb => ?_) ?_ (fun _ _ hh=>hh.elim)
 ·simp -implicitDefEqProofs only [D5,jO,jP,jI,jM,A8,KW,AZ,BA,AL,BD,AY,AC,DU,AA,AX,BJ,CU,BG,AB,BZ,BF,BQ,↓reduceIte,jA,jG,jB,jC,enP,AF5,ED,jK,EM,EW,s1.t1]
  refine ⟨rfl,rfl,rfl,v1,v2,?_,c1.trans (Ch.set c _ _ _ _)⟩
  have:max dd d=d:=by simp at hb; omega
  rw [this]
  exact s1.set (n+1) d f
 ·simp -implicitDefEqProofs only [BR,KW]
  refine ⟨rfl,rfl,rfl,v1,v2,?_,c1⟩
  have:max dd d=dd:=by simp at hb; omega
  rw [this]
  exact s1
 clear s1 c1
 rintro F H ⟨f0,f2,f4,u1,u2,s,hC⟩
 simp -implicitDefEqProofs only [D5,jO,jP,jI,jM,BB,A8,BI,A7,AZ,BA,AL,BD,AY,AC,AA,AX,AU,BH,BJ,BO,BU,BG,AB,CX,↓reduceIte,jG,jB,jC,enP,YU,ED,EM,EW,f0,s.l2]
 refine OU (Md e c d v1 v2 h n n (n+1) (max dd d) (WX f [e])) (fun _ _=>False) (fun hb => ?_) (fun hb => ?_) ?_ (fun _ _ hh=>hh.elim)
 ·simp -implicitDefEqProofs only [D5,jO,jP,jI,jM,A8,AZ,AL,BD,AY,AC,AA,AX,BN,BJ,BO,BV,BP,AB,jF,jD,jE,↓reduceIte,jA,jB,jC,enP,ED,f0,f2,f4,G6 (hbox _ _ _ hC)]
  refine (ANA G e _ hnm).use ?_
  simp -implicitDefEqProofs only [D5,jO,jP,jI,jM,KW,AZ,BA,AL,BD,AY,AC,DU,AA,AX,CU,BG,AB,BZ,↓reduceIte,jA,jG,jB,jC,enP,YU,ED,jK,EM,EW,s.t2,f0,f2,f4]
  refine ⟨f0,f2,f4,u1,u2,?_,hC.trans (Ch.set c _ _ _ _)⟩
  have:WX f [e]=JH e:=by
   have:f=0:=by simpa using hb
   subst this; rfl
  rw [this]
  exact s.set _ _ _
 ·simp -implicitDefEqProofs only [BR,KW]
  refine ⟨f0,f2,f4,u1,u2,?_,hC⟩
  have:WX f [e]=f:=by
   have:f≠0:=by simpa using hb
   show (if f=0 then JH e else f)=f
   rw [if_neg this]
  rw [this]; exact s
 clear f0 f2 f4 s hC
 rintro F H ⟨f0,f2,f4,u1,u2,s,hC⟩
 simp -implicitDefEqProofs only [BB,A7]
 refine EK (by kernel_rfl) ?_
 have hB:=hbox _ _ _ hC
 refine AS5 (fun F H=>(∃ b,F 47 = .bool b)∧Md e c d v1 v2 h n n (n+1) (max dd d) (WX f [e]) F H) ?_ ?_
 ·cases b2:(e.op == 2)
  ·simp -implicitDefEqProofs only [ET,D5,jO,jP,jI,jM,DK,CY,D7,DL,EJ,E8,SC,EH,GK,EC,HY,C9,CO,AA,EQ,AX,AU,BH,BM,CP,DZ,BO,BU,BG,AB,CX,↓reduceIte,jA,jL,jH,jB,enP,FU,f0,f2,f4,lb0 _ hB,b2]
   exact ⟨⟨_,rfl⟩,f0,f2,f4,u1,u2,s,hC⟩
  ·obtain ⟨r,hr⟩:=AQ6 G e.name s.s1 (by omega)
   simp -implicitDefEqProofs only [ET,D5,jO,jP,jI,jM,DK,CY,DL,EJ,E8,NQ,EH,EC,HY,AWS,C9,EI,EE,CO,AA,AX,AU,BN,BH,BO,BU,JG,BG,AB,CX,jF,jD,jE,↓reduceIte,jA,jL,jH,jG,jB,enP,FU,KF,AMM,EM,FZ,EW,f0,f2,f4,lb0 _ hB,lb2 _ hB,b2,s.l3]
   refine ⟨_,hr,?_⟩
   simp -implicitDefEqProofs only [ET,D5,jO,jP,jI,jM,DK,CY,D7,DL,GK,AA,AX,AU,BM,CP,DW,AB,GG,↓reduceIte,jA,jL,jB,f0,f2,f4]
   exact ⟨⟨_,rfl⟩,f0,f2,f4,u1,u2,s,hC⟩
 clear f0 f2 f4 s hC hB
 rintro F H ⟨⟨b,f47⟩,f0,f2,f4,u1,u2,s,hC⟩
 have hB:=hbox _ _ _ hC
 simp -implicitDefEqProofs only [BI,A7,AX,f47]
 refine OU (Md e c d v1 v2 h (n+1) n (n+1) (max dd d) (WX f [e])) (fun _ _=>False) (fun hb => ?_) (fun hb => ?_) ?_ (fun _ _ hh=>hh.elim)
 ·obtain ⟨v',H',ha,ht,s',hC'⟩:=s.app3 e.name (by omega)
  refine EK (by kernel_rfl) ?_
  simp -implicitDefEqProofs only [ET,ER,EP,D5,jO,jP,jI,jM,DK,CY,FK,D7,DL,EH,QS,EC,FH,C9,MV,KW,AA,AX,GR,BO,CU,BG,LV,CB,AB,BZ,↓reduceIte,jA,jL,jG,jB,enP,KF,AMM,jK,EM,FZ,EW,f0,f2,f4,lb2 _ hB,s.l3,AR9,ha,ht]
  exact ⟨f0,f2,f4,_,_,s',hC.trans hC'⟩
 ·simp -implicitDefEqProofs only [BR,KW]
  exact ⟨f0,f2,f4,_,_,s.weak (by omega) (by omega),hC⟩
 clear f0 f2 f4 s hC hB
 rintro F H ⟨f0,f2,f4,u1,u2,s,hC⟩
 have hB:=hbox _ _ _ hC
 simp -implicitDefEqProofs only [BB,A7]
 refine EK (by kernel_rfl) ?_
 refine AS5 (fun F H=>(∃ b,F 76 = .bool b)∧Md e c d v1 v2 h (n+1) n (n+1) (max dd d) (WX f [e]) F H) ?_ ?_
 ·obtain ⟨r,hr⟩:=AQ6 G e.name s.s2 (by omega)
  cases b2:(e.op == 3)
  ·cases b3:(e.op == 24)
   ·simp -implicitDefEqProofs only [ET,D5,jO,jP,jI,jM,DK,CY,D7,DL,EJ,E8,O0,SC,EH,GK,EC,HY,C9,CO,AA,EQ,AX,AU,BH,BM,CP,DZ,BO,BU,BG,AB,CX,↓reduceIte,jA,jL,jH,jB,enP,FU,f0,f2,f4,lb0 _ hB,b2,b3]
    exact ⟨⟨_,rfl⟩,f0,f2,f4,u1,u2,s,hC⟩
   ·simp -implicitDefEqProofs only [ET,D5,jO,jP,jI,jM,DK,CY,DL,EJ,E8,NQ,O0,EH,GK,EC,HY,AWS,C9,EI,EE,CO,AA,AX,AU,BN,BH,BM,CP,DZ,BO,BU,JG,BG,AB,CX,jF,jD,jE,↓reduceIte,jA,jL,jH,jG,jB,enP,FU,KF,AF4,EM,FZ,EW,f0,f2,f4,lb0 _ hB,lb2 _ hB,b2,b3,s.l4]
    refine ⟨_,hr,?_⟩
    simp -implicitDefEqProofs only [ET,D5,jO,jP,jI,jM,DK,CY,D7,DL,GK,AA,AX,AU,BM,CP,DW,AB,GG,↓reduceIte,jA,jL,jB,f0,f2,f4]
    exact ⟨⟨_,rfl⟩,f0,f2,f4,u1,u2,s,hC⟩
  ·simp -implicitDefEqProofs only [ET,D5,jO,jP,jI,jM,DK,CY,DL,EJ,E8,NQ,QE,EH,GK,EC,HY,AWS,C9,EI,EE,CO,AA,EQ,AX,AU,BN,BH,BM,CP,DW,BO,BU,JG,BG,AB,CX,jF,jD,jE,↓reduceIte,jA,jL,jH,jG,jB,enP,FU,KF,AF4,EM,FZ,EW,f0,f2,f4,lb0 _ hB,lb2 _ hB,b2,s.l4]
   refine ⟨_,hr,?_⟩
   simp -implicitDefEqProofs only [ET,D5,jO,jP,jI,jM,DK,CY,D7,DL,GK,AA,AX,AU,BM,CP,DW,AB,GG,↓reduceIte,jA,jL,jB,f0,f2,f4]
   exact ⟨⟨_,rfl⟩,f0,f2,f4,u1,u2,s,hC⟩
 clear f0 f2 f4 s hC hB f47
 rintro F H ⟨⟨b,f76⟩,f0,f2,f4,u1,u2,s,hC⟩
 have hB:=hbox _ _ _ hC
 simp -implicitDefEqProofs only [BI,A7,AX,f76]
 refine OU (Md e c d v1 v2 h (n+1) (n+1) (n+1) (max dd d) (WX f [e])) (fun _ _=>False) (fun hb => ?_) (fun hb => ?_) ?_ (fun _ _ hh=>hh.elim)
 ·obtain ⟨v',H',ha,ht,s',hC'⟩:=s.app4 e.name (by omega)
  refine EK (by kernel_rfl) ?_
  simp -implicitDefEqProofs only [ET,ER,EP,D5,jO,jP,jI,jM,Bool.or_true,DK,CY,FK,D7,DL,EH,QS,EC,FH,C9,MV,KW,AA,AX,GR,BO,CU,BG,LV,CB,AB,BZ,↓reduceIte,jA,jL,jG,jB,enP,KF,AF4,jK,EM,FZ,EW,f0,f2,f4,lb2 _ hB,s.l4,AR9,ha,ht]
  exact ⟨f0,f2,f4,_,_,s',hC.trans hC'⟩
 ·simp -implicitDefEqProofs only [BR,KW]
  exact ⟨f0,f2,f4,_,_,s.weak (by omega) (by omega),hC⟩
 clear f0 f2 f4 s hC hB f76
 rintro F H ⟨f0,f2,f4,u1,u2,s,hC⟩
 simp -implicitDefEqProofs only [D5,jO,jP,jI,jM,BB,CE,A8,A7,AZ,BA,AL,BD,AY,AC,AU,BH,BC,jB,jC,ED]
 refine EG (fun k F H => ∃ j,k+j=e.args.length∧F 6 = .int .i64 (j:Nat)∧Md e c d v1 v2 h (n+1+(IZ (e.args.take j)).length) (n+1+(IZ (e.args.take j)).length) (n+1+(IZ (e.args.take j)).length) (max dd (d+deps (e.args.take j))) (WX (WX f [e]) (IZ (e.args.take j))) F H) e.args.length ⟨0,by simp,rfl,f0,f2,f4,u1,u2,s,hC⟩ ?_
 clear f0 f2 f4 s hC
 rintro k F H ⟨j,hj,f6,f0,f2,f4,u1,u2,s,hC⟩
 have hB:=hbox _ _ _ hC
 simp -implicitDefEqProofs only [D5,jO,jP,jI,jM,BB,A8,BI,A7,AZ,BA,AL,BD,AY,AC,AA,AX,BJ,BO,BU,BG,FP,AB,DV,↓reduceIte,jA,jG,jB,jC,enP,TD,IJ,ED,f6,f4,lb3 _ hB,jR]
 refine CQ (fun hlt => ?_) (fun hlt => ?_)
 ·have hj':j < e.args.length:=by simpa using hlt
  have hmem:e.args[j]∈e.args:=jT hj'
  have hwa:=WA hmem
  have hpl:(IZ (e.args.take j)).length+(pre e.args[j]).length≤wts e.args:=by
   have h1:=AHO e.args
   have h2:IZ e.args=IZ (e.args.take j) ++ (pre e.args[j] ++ IZ (e.args.drop (j+1))):=by
    rw [← qA,← KH _ _ hj',← ML,List.take_append_drop]
   rw [h2] at h1; simp at h1; omega
  have hsp:(IZ (e.args.take j)).length+wt e.args[j]≤wts e.args:=by
   have h1:=AHO (e.args.take j)
   have h2:=AGV e.args j hj'
   omega
  have hdt:deps (e.args.take j)≤wts e.args:=YY e.args j
  simp -implicitDefEqProofs only [D5,jO,jP,jI,jM,BB,CE,A8,BR,A7,AZ,AL,BD,AY,AC,AA,AX,AU,BN,BH,BJ,BO,BU,BG,CG,BV,BP,AB,D6,jF,jD,jE,↓reduceIte,jA,jG,jB,jC,enP,LQ,IJ,ED,f0,f2,f4,f6,lb3 _ hB,EX hj',EU KJ JR ES hj',wrap_succ (show d < 9223372036854775807 by omega)]
  refine (ih e.args[j] hmem ⟨by omega,fun x hx=>hwn.2 x (by rw [pre_eq]; exact List.mem_cons_of_mem _ (ND hmem x hx))⟩ H (d+1) _ _ _ u1 u2 (by omega) (by omega) (by omega) s).mono ?_
  rintro v H' ⟨w1,w2,s',hC'⟩
  simp -implicitDefEqProofs only [D5,jO,jP,jI,jM,A8,A7,EO,FO,AZ,BA,AL,BD,AY,AC,AA,AX,AU,BH,BJ,BC,BU,AB,D6,↓reduceIte,jA,jB,jC,enP,ED,f6,wrap_succ (show j < 9223372036854775807 by omega)]
  refine ⟨k - 1,by omega,j+1,by omega,rfl,f0,f2,f4,w1,w2,?_,hC.trans hC'⟩
  rw [KH _ _ hj',AER _ _ hj',AIH,qB]
  have e1:max (max dd (d+deps (e.args.take j))) (d+1+deps e.args[j].args)=max dd (d+max (deps (e.args.take j)) (dep e.args[j])):=by
   rw [AGD]; omega
  rw [e1,Nat.add_assoc (n+1)] at s'
  exact s'
 ·have hj' : ¬ j < e.args.length:=by simpa using hlt
  rw [jY (by omega)] at s
  simp -implicitDefEqProofs only [EF,FC,F6,F8,G9,↓reduceIte]
  refine ⟨u1,u2,?_,c0.trans hC⟩
  have e1:n+1+(IZ e.args).length=n+(pre e).length:=by rw [pre_eq]; simp; omega
  have e2:WX (WX f [e]) (IZ e.args)=WX f (pre e):=by rw [pre_eq,← AIH]; rfl
  rw [e1,e2] at s
  exact s
theorem A1F:JZ Tryz.prog 122 []=some (.agg [.int .i64 0,.int .i64 0,.int .i64 0,.sl .nil 0 [],.sl .nil 0 []]):=by kernel_rfl
theorem A0X (h:Hp):PO h (.agg [.int .i64 0,.int .i64 0,.int .i64 0,.sl .nil 0 [],.sl .nil 0 []])=some (.ptr h.length 0 0,h ++ [.live 5 [wRow 0 0 0 (.sl .nil 0 []) (.sl .nil 0 [])]]):=AGG rfl
theorem AP3 (G:Nat→AV) (e:Ex) (hwn:WN e) (h:Hp) :
  ACalls (En G) 99 [.agg (CW e)] h fun v h' => ∃ c m u1 u2,v = .ptr c 0 0∧St h' c m m (pre e).length (dep e) (errs (pre e)) u1 u2∧∃ x,h'=h ++ x:=by
 refine acN Tryz.func99 rfl ?_
 show awp _ _ _ _ _ (EN _ [.tmp 2] _)
 simp -implicitDefEqProofs only [ER,BB,A8,A7,AZ,BA,AO,AQ,AL,BD,AY,AC,AA,AX,AU,BN,BH,AM6,BJ,BC,FQ,FI,BO,BV,BP,CB,AB,BF,jF,jD,jE,↓reduceIte,jA,jB,jC,enP,bxE,A1F,A0X,G6 (DC (DF h _))]
 have nb : ∀ b,¬ isB (.sl .nil 0 []) b:=fun b hb=>hb
 have hw:=hwn.1
 refine (ATQ G _ e hwn _ 1 0 0 0 (.sl .nil 0 []) (.sl .nil 0 []) (by omega) (by omega) (by omega) ⟨DF _ _,⟨[],by simp,.inl ⟨rfl,_,rfl⟩⟩,⟨[],by simp,.inl ⟨rfl,_,rfl⟩⟩,fun b hb=>(nb b hb).elim⟩).mono ?_
 rintro v h' ⟨u1,u2,s,hC⟩
 simp -implicitDefEqProofs only [BB,A8,BK,A7,CV,AZ,BA,AO,AQ,AL,BD,AY,AC,AA,AX,BJ,BC,↓reduceIte,jA,jB,jC]
 have e1:0+(pre e).length=(pre e).length:=jG _
 have e2:max 0 (1+deps e.args)=dep e:=by rw [AGD]; omega
 rw [e1,e2] at s
 refine ⟨_,_,u1,u2,rfl,s,?_⟩
 have hC2:=((Ch.app (h ++ [ABlk.live 4 [CW e]]).length (.sl .nil 0 []) (.sl .nil 0 []) h [.live 4 [CW e]]).trans (Ch.app _ _ _ _ [.live 5 [wRow 0 0 0 (.sl .nil 0 []) (.sl .nil 0 [])]])).trans hC
 refine Chg.above (c:=(h ++ [ABlk.live 4 [CW e]]).length) ⟨hC2.len,fun b hb hne=>hC2.get b hb hne (nb b) (nb b)⟩ (by simp)
theorem UR (G:Nat→AV) (e:Ex) (h:Hp) (hw:WN e):PCall (En G) 50 [.agg (CW e)] h (.int .i64 (exE e)):=by
 refine ACalls.pure0 rfl ?_
 refine acN Tryz.func50 rfl ?_
 show awp _ _ _ _ _ (EN _ [.tmp 2] _)
 simp -implicitDefEqProofs only [BB,A8,A7,AZ,BA,AO,AQ,AL,BD,AY,AC,AA,AX,AU,BN,BH,BC,FQ,BO,BV,BP,CB,AB,BF,jF,jD,jE,↓reduceIte,jA,jB,jC,enP,bxE,ldE]
 refine (AP3 G e hw _).mono ?_
 rintro v h' ⟨c,m,u1,u2,rfl,s,x,rfl⟩
 simp -implicitDefEqProofs only [BB,A8,A7,AZ,BA,BL,BX,CO,AO,AQ,AL,BD,AY,AC,AA,AX,AU,BH,BJ,BC,BO,BU,BG,AB,CX,↓reduceIte,jG,jB,jC,enP,YU,EM,EW,s.l2]
 rcases he:(errs (pre e) == 0) with _ | _
 ·simp -implicitDefEqProofs only [BB,A8,BR,BK,BI,A7,CV,DN,AZ,BA,BL,BX,CO,IP,W9,AO,AQ,AL,BD,AY,AC,AA,EQ,AX,AU,BM,BJ,BC,CP,DZ,BO,BG,AB,↓reduceIte,jA,jG,jB,jC,enP,YU,EM,EW,s.l2]
  have:errs (pre e)≠0:=by simpa using he
  exact ⟨by unfold exE; rw [if_neg (fun hh=>this hh.1)],_,by rw [qA]⟩
 have he0:errs (pre e)=0:=by simpa using he
 simp -implicitDefEqProofs only [BL,BX,CO,GL,AO,AQ,AL,BD,AY,AC,AA,AX,AU,BH,BJ,BO,BU,BG,AB,FM,↓reduceIte,jA,jG,jB,jC,enP,AF5,EM,EW,s.l1]
 refine IA (fun hd => ?_) (fun hd => ?_)
 ·simp -implicitDefEqProofs only [BB,A8,BK,BI,A7,CJ,CV,DI,AZ,BA,BL,BX,CO,GL,F7,AO,AQ,AL,BD,AY,AC,AA,EQ,AX,AU,BH,BM,BC,CP,DW,↓reduceIte,jA,jB,jC,hd]
  exact ⟨by unfold exE; rw [if_pos ⟨he0,.inl (by simp at hd; omega)⟩],_,by rw [qA]⟩
 simp -implicitDefEqProofs only [BI,A7,AZ,BA,BL,BX,CO,GL,EY,AO,AQ,AL,BD,AY,AC,AA,AX,AU,BH,BM,BJ,CP,DW,DZ,BO,BU,BG,AB,FM,↓reduceIte,jA,jH,jB,jC,enP,AMN,EM,EW,hd,s.l0]
 refine CQ (fun hn => ?_) (fun hn => ?_)
 ·simp -implicitDefEqProofs only [BB,A8,BK,A7,CJ,CV,AZ,BA,AO,AQ,AL,BD,AY,AC,AA,AU,BH,BC,↓reduceIte,jB,jC]
  exact ⟨by unfold exE; rw [if_pos ⟨he0,.inr (by simp at hn; omega)⟩],_,by rw [qA]⟩
 ·simp -implicitDefEqProofs only [BB,A8,BR,BK,A7,CV,AZ,BA,AO,AQ,AL,BD,AY,AC,AA,AX,BJ,BC,BO,BG,AB,↓reduceIte,jA,jG,jB,jC,enP,YU,EM,EW,s.l2]
  exact ⟨by unfold exE; rw [if_neg (fun hh=>by simp at hn hd; omega)],_,by rw [qA]⟩
theorem AIG (G:Nat→AV) (e:Ex) (h:Hp) (hw:wt e≤1048576):PCall (En G) 50 [.agg (CW e)] h (.int .i64 (exE e)):=UR G e h (AE6 hw)
end Go.Proofs.YtokehnfjjmpanaaGreatDoor.Cov
