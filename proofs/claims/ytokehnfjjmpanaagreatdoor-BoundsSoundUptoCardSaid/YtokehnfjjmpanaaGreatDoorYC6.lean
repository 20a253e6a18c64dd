/- Part 6 of the proof (E7, E8, E9, E10); no condition. -/
import Derived.Test.YtokehnfjjmpanaaGreatDoorYC5
set_option linter.unusedVariables false
set_option linter.unusedSimpArgs false
set_option maxRecDepth 8000
namespace Go.Proofs.YtokehnfjjmpanaaGreatDoor.Cov
open Sm Bins Go.RowKit
open Bool renaming not_false→jC,or_false→jO
open List renaming map_cons→jF,map_nil→jD,append_nil→jE,length_cons→qH,length_map→jM,getElem_mem→jQ,append_assoc→zY,take_of_length_le→jX,getElem?_append_left→zW,getElem?_set→jY,length_append→zX,take_succ_cons→qO,contains_cons→jP,contains_nil→jR
open Nat renaming le_of_ble_eq_true→jH,reduceEqDiff→jB,zero_add→jG,le_refl→jL,reduceBEq→jS,add_zero→jI,reduceAdd→jK
open Option renaming getD_some→jA,getD_none→jJ
theorem AI4 (G:Nat→AV) (e:Ex):AL7 G 134 (fun _ z=>IntKind.i64.wrap (z+1)) (fun _=>true) e:=by
 intro h c z hc
 have hcl:=CP hc
 refine acN Tryz.func134 rfl ?_
 show awp _ _ _ _ _ (EE _ [.tmp 3] _)
 simp -implicitDefEqProofs only [BC,A8,BK,A7,CU,AZ,BA,AC,AQ,AO,BD,AX,AL,DZ,AA,AY,AU,BG,BM,BB,FN,BP,CZ,BU,BZ,AB,CE,DY,BF,BQ,↓reduceIte,jB,jA,jC,enP,jJ,bxE,IL ag3 (CX hc),SY sz3 (W9 _ _) (CX hc)]
 exact ⟨trivial,(Chg.app c h _).trans (Chg.set c _ _),G7 (CX hc)⟩
theorem AHS (G:Nat→AV) (hG:GOk G) (e:Ex) (hl:e.name.size≤1048576):AL7 G 88 (fun e _=>I4 e) (fun z=>z == 0) e:=by
 intro h c z hc
 have hcl:=CP hc
 refine acN Tryz.func88 rfl ?_
 show awp _ _ _ _ _ (EE _ [.tmp 3] _)
 simp -implicitDefEqProofs only [BC,A8,A7,AZ,BA,AC,AQ,AO,BD,AX,AL,AA,AY,AU,BO,BM,BB,FN,BP,BV,BN,BZ,AB,BF,jF,jD,jE,↓reduceIte,jB,jA,jC,enP,bxE,ldE]
 refine (AMV G hG e _ hl).use ?_
 have hs:=G7 (y := .live 1 [[.int .i64 (I4 e)]]) (CX (x := .live 4 [CW e]) hc)
 simp -implicitDefEqProofs only [BC,A8,BK,A7,CU,AZ,BA,AC,AQ,AO,BD,AX,AL,DZ,AA,AY,AU,BG,BB,BP,CZ,BU,AB,CE,DJ,BF,BQ,↓reduceIte,jB,jA,jC,enP,jJ,SY AVO (W9 _ _) (CX hc),IL ARP hs]
 exact ⟨trivial,(Chg.app c h _).trans (Chg.set c _ _),hs⟩
theorem AGV : ∀ (xs:List Ex) (n:Nat),n+xs.length≤1099511627776→run (fun _ z=>IntKind.i64.wrap (z+1)) (fun _=>true) xs (n:Int)=(((n+xs.length:Nat):Int),true)
 | [],n,_=>rfl
 | x :: xs,n,h=>by
   simp only [qH] at h
   simp only [run,if_true]
   rw [wrap_succ (by omega),AGV xs (n+1) (by omega),qH]
   congr 1; omega
def errs (xs:List Ex):Int:=xs.foldl (fun z e=>if z=0 then I4 e else z) 0
theorem AFK : ∀ (xs:List Ex) (z:Int),z≠0→xs.foldl (fun z e=>if z=0 then I4 e else z) z=z
 | [],_,_=>rfl
 | x :: xs,z,h=>by rw [List.foldl_cons,if_neg h]; exact AFK xs z h
theorem AGW : ∀ (xs:List Ex),(run (fun e _=>I4 e) (fun z=>z == 0) xs 0).1=errs xs
 | []=>rfl
 | x :: xs=>by
   simp only [run,errs,List.foldl_cons,if_true]
   rcases hn:(I4 x == 0) with _ | _
   ·have:I4 x≠0:=by simpa using hn
    rw [AFK _ _ this]; rfl
   ·have:I4 x=0:=by simpa using hn
    rw [this]; simp only [if_true]; exact AGW xs
theorem AO2 {x e:Ex} (hx:x∈pre e):x.name.size≤wt e:=by
 induction e using Ex.induct with | h e ih => ?_
 rw [pre_eq] at hx
 have hw:=PQ e
 rcases List.mem_cons.1 hx with rfl | hx
 ·omega
 have : ∀ l:List Ex,(∀ a∈l,x∈pre a→x.name.size≤wt a)→x∈II l→x.name.size≤wts l:=by
  intro l
  induction l with
  | nil=>intro _ h; simp [II] at h
  | cons y l ih2 =>
    intro hh h
    simp only [II,List.mem_append] at h
    simp only [wts]
    rcases h with h | h
    ·have:=hh y (by simp) h; omega
    ·have:=ih2 (fun a ha=>hh a (by simp [ha])) h; omega
 have:=this e.args (fun a ha=>ih a ha) hx
 omega
theorem AMJ (G:Nat→AV) (e:Ex) (h:Hp) (hw:wt e≤1099511627776):PCall (En G) 91 [.agg (CW e)] h (.int .i64 (pre e).length):=by
 refine ACalls.pure0 rfl ?_
 refine acN Tryz.func91 rfl ?_
 show awp _ _ _ _ _ (EE _ [.tmp 2] _)
 have hg:=C9 (h ++ [ABlk.live 4 [CW e]]) (.live 1 [[.int .i64 0]])
 have hs:(h ++ [ABlk.live 4 [CW e]] ++ [ABlk.live 1 [[.int .i64 0]]]).set (h ++ [ABlk.live 4 [CW e]]).length (.live 1 [[.int .i64 0]])=h ++ [ABlk.live 4 [CW e]] ++ [ABlk.live 1 [[.int .i64 0]]]:=AK3 _ _ _
 simp -implicitDefEqProofs only [BC,A8,A7,AZ,BA,AC,AQ,AO,BD,AX,AL,DZ,AA,AY,AU,BO,BG,BB,EZ,FN,BP,CZ,JF,BV,BN,BZ,AB,CE,BF,jF,jD,jE,↓reduceIte,jB,jA,jC,enP,jJ,bxE,al3,SY sz3 (W9 _ _) hg,hs,IR (CX (C9 h _))]
 refine (ADJ G 134 _ _ _ e hw (fun x _=>AI4 G x) _ 0 hg).mono ?_
 rintro v h' ⟨hch,hc1⟩
 simp -implicitDefEqProofs only [BC,A8,BK,A7,CU,AZ,BA,AC,AQ,AO,BD,AX,AL,AA,AY,BB,BP,AB,↓reduceIte,jB,jA,jC,enP,IL ag3 hc1]
 have:=AGV (pre e) 0 (by have:=WF e; omega)
 simp only [jG] at this
 exact ⟨by rw [show (0:Int)=((0:Nat):Int) from rfl,this],(((Chg.app _ h _).trans (Chg.app _ _ _)).trans hch).above (by simp)⟩
theorem AJ7 (G:Nat→AV) (e:Ex):wt e≤1099511627776→∀ h:Hp,PCall (En G) 90 [.agg (CW e)] h (.int .i64 (dep e)):=by
 induction e using Ex.induct with | h e ih => ?_
 intro hw h
 have hal:e.args.length≤1099511627776:=by have:=XC e.args; have:=PQ e; omega
 refine ACalls.pure0 rfl ?_
 refine acN Tryz.func90 rfl ?_
 show awp _ _ _ _ _ (EE _ [.tmp 2] _)
 simp -implicitDefEqProofs only [BC,CB,A8,A7,AZ,BA,AC,AQ,AO,BD,AX,AL,AA,AY,AU,BG,BH,BB,FN,BP,BI,E5,BZ,AB,BF,↓reduceIte,jB,jG,jA,jC,enP,TT,JW,bxE,EH QU,SB,jM]
 have hdw:dep e≤1099511627776:=Nat.le_trans (AQT e) hw
 refine D7 (fun n F H => ∃ j,n+j=e.args.length∧F 3 = .int .i64 (deps (e.args.take j):Nat)∧F 7 = .sl e.m 4 (e.args.map CW)∧F 8 = .int .i64 e.args.length∧F 9 = .int .i64 (j:Nat)∧∃ x,H=h ++ x) e.args.length ⟨0,by simp,by simp -implicitDefEqProofs only [AA,↓reduceIte,jB]; rfl,by simp -implicitDefEqProofs only [AA,↓reduceIte,jB],by simp -implicitDefEqProofs only [AA,↓reduceIte,jB],by simp -implicitDefEqProofs only [AA,↓reduceIte]; rfl,⟨_,rfl⟩⟩ ?_
 rintro n F H ⟨j,hj,f3,f7,f8,f9,x,rfl⟩
 simp -implicitDefEqProofs only [BC,A8,BJ,A7,AZ,BA,AC,AQ,AO,BD,AX,AL,AA,AY,BU,AB,DF,↓reduceIte,jA,jC,enP,f8,f9]
 refine CV (fun hlt => ?_) (fun hlt => ?_)
 ·have hj':j < e.args.length:=by simpa using hlt
  have hmem:e.args[j]∈e.args:=jQ hj'
  simp -implicitDefEqProofs only [BC,CB,A8,BR,A7,AZ,BA,AC,AQ,AO,BD,AX,AL,DZ,AA,AY,BO,BH,EZ,BP,CZ,CQ,BV,BN,BZ,AB,CE,jF,jD,jE,↓reduceIte,jB,jA,jC,enP,P9,jJ,f3,f7,f9,EF hj',EO MK J4 EN hj',AF1,AGQ _ _ [.int .i64 0,.int .i64 0,.str ⟨#[]⟩,.sl .nil 0 []] rfl,ldE]
  refine (ih e.args[j] hmem (by have:=UX hmem; have:=PQ e; omega) _).use ?_
  simp -implicitDefEqProofs only [A8,A7,EK,FI,AZ,BA,AC,AQ,AO,BD,AX,AL,AA,AY,AU,BG,BH,BB,BU,ZL,AB,DY,UH,↓reduceIte,jB,jA,jC,enP,f7,f8,f9,wrap_succ (show j < 9223372036854775807 by omega)]
  refine ⟨n - 1,by omega,j+1,by omega,?_,trivial,trivial,rfl,_,by rw [zY]⟩
  rw [AD8 _ _ hj']
  congr 1
  omega
 ·have hj' : ¬ j < e.args.length:=by simpa using hlt
  rw [jX (by omega)] at f3
  rw [AFQ] at hdw ⊢
  simp -implicitDefEqProofs only [BC,A8,BK,D6,A7,EU,FT,FX,CU,AZ,BA,AC,AQ,AO,BD,AX,AL,AA,AY,AU,BG,BH,BB,BU,AB,DY,↓reduceIte,jB,jA,jC,enP,f3,wrap_succ (show deps e.args < 9223372036854775807 by omega)]
  exact ⟨trivial,x,rfl⟩
def exE (e:Ex):Int:=if errs (pre e)=0∧(24 < dep e∨400 < (pre e).length) then 2 else errs (pre e)
def WN (e:Ex):Prop:=wt e≤274877906944∧∀ x∈pre e,x.name.size≤1048576
theorem AIS {e:Ex} (hw:wt e≤1048576):WN e:=⟨by omega,fun x hx=>by have:=AO2 hx; omega⟩
theorem V6 (G:Nat→AV) (hG:GOk G) (e:Ex) (h:Hp) (hn:WN e):PCall (En G) 47 [.agg (CW e)] h (.int .i64 (exE e)):=by
 refine ACalls.pure0 rfl ?_
 refine acN Tryz.func47 rfl ?_
 show awp _ _ _ _ _ (EE _ [.tmp 2] _)
 have hg:=C9 (h ++ [ABlk.live 4 [CW e]]) (.live 1 [[.int .i64 0]])
 have hs:(h ++ [ABlk.live 4 [CW e]] ++ [ABlk.live 1 [[.int .i64 0]]]).set (h ++ [ABlk.live 4 [CW e]]).length (.live 1 [[.int .i64 0]])=h ++ [ABlk.live 4 [CW e]] ++ [ABlk.live 1 [[.int .i64 0]]]:=AK3 _ _ _
 have hb:=CX (x:=ABlk.live 1 [[.int .i64 0]]) (C9 h (.live 4 [CW e]))
 have hw:=hn.1
 simp -implicitDefEqProofs only [BC,A8,A7,AZ,BA,AC,AQ,AO,BD,AX,AL,DZ,AA,AY,AU,BO,BG,BB,EZ,FN,BP,CZ,JF,BV,BN,BZ,AB,CE,BF,jF,jD,jE,↓reduceIte,jB,jA,jC,enP,jJ,bxE,A2A,SY AVO (W9 _ _) hg,hs,IR hb]
 refine (ADJ G 88 _ _ _ e (by omega) (fun x hx=>AHS G hG x (hn.2 x hx)) _ 0 hg).mono ?_
 rintro v h' ⟨hch,hc1⟩
 rw [AGW] at hc1
 have hb':=hch.get hb (by simp)
 have hab:=(((Chg.app _ h _).trans (Chg.app _ _ _)).trans hch).above (show h.length≤(h ++ [ABlk.live 4 [CW e]]).length by simp)
 simp -implicitDefEqProofs only [BC,A8,A7,AZ,BA,BL,BX,CG,AC,AQ,AO,BD,AX,AL,AA,AY,AU,BG,BH,BP,BU,AB,DJ,↓reduceIte,jB,jA,jC,enP,IL ARP hc1]
 rcases he:(errs (pre e) == 0) with _ | _
 ·simp -implicitDefEqProofs only [BC,A8,BR,BK,BJ,A7,CU,DX,AZ,BA,BL,BX,CG,JA,VW,AC,AQ,AO,BD,AX,AL,AA,EG,AY,AU,BM,BB,CO,DU,BP,AB,↓reduceIte,jB,jA,jC,enP,IL ARP hc1]
  have:errs (pre e)≠0:=by simpa using he
  exact ⟨by unfold exE; rw [if_neg (fun hh=>this hh.1)],hab⟩
 have he0:errs (pre e)=0:=by simpa using he
 simp -implicitDefEqProofs only [BL,BX,CG,F8,AC,AQ,AO,BD,AX,AL,AA,AY,BO,BP,BV,BN,AB,jF,jD,jE,↓reduceIte,jB,jA,jC,enP,IR hb']
 refine (AJ7 G e (by omega) _).use ?_
 simp -implicitDefEqProofs only [BL,BX,CG,F8,AC,AQ,AO,BD,AX,AL,AA,AY,AU,BG,BH,BU,AB,EY,↓reduceIte,jB,jA,jC,enP]
 refine IV (fun hd => ?_) (fun hd => ?_)
 ·simp -implicitDefEqProofs only [BC,A8,BK,BJ,A7,CJ,CU,DR,AZ,BA,BL,BX,CG,F8,FY,AC,AQ,AO,BD,AX,AL,AA,EG,AY,AU,BG,BM,BB,CO,DK,↓reduceIte,jB,jA,jC,hd]
  exact ⟨by unfold exE; rw [if_pos ⟨he0,.inl (by simp at hd; omega)⟩],hab⟩
 simp -implicitDefEqProofs only [BL,BX,CG,EM,AC,AQ,AO,BD,AX,AL,AA,AY,BO,BP,BV,BN,AB,jF,jD,jE,↓reduceIte,jB,jA,jC,enP,hd,IR hb']
 refine (AMJ G e _ (by omega)).use ?_
 simp -implicitDefEqProofs only [BJ,A7,AZ,BA,BL,BX,CG,F8,EM,AC,AQ,AO,BD,AX,AL,AA,AY,AU,BG,BM,CO,DK,DU,BU,AB,EY,↓reduceIte,jB,jA,jC,enP]
 refine CV (fun hn => ?_) (fun hn => ?_)
 ·simp -implicitDefEqProofs only [BC,A8,BK,A7,CJ,CU,AZ,BA,AC,AQ,AO,BD,AX,AL,AA,AU,BG,BB,↓reduceIte,jA,jC]
  exact ⟨by unfold exE; rw [if_pos ⟨he0,.inr (by simp at hn; omega)⟩],hab⟩
 ·simp -implicitDefEqProofs only [BC,A8,BR,BK,A7,CU,AZ,BA,AC,AQ,AO,BD,AX,AL,AA,AY,BB,BP,AB,↓reduceIte,jB,jA,jC,enP,IL ARP hc1]
  exact ⟨by unfold exE; rw [if_neg (fun hh=>by simp at hn hd; omega)],hab⟩
theorem AFJ (G:Nat→AV) (hG:GOk G) (e:Ex) (h:Hp) (hw:wt e≤1048576):PCall (En G) 47 [.agg (CW e)] h (.int .i64 (exE e)):=V6 G hG e h (AIS hw)
theorem QL {E:Env} {H:Hint} {x y:Code} {F:Fr} {h:Hp} {Q:AEx→Fr→Hp→Prop} {b:Bool} (N R:Fr→Hp→Prop) (h1:b=true→awp E H x F h (AS4 N R)) (h2:b=false→awp E H y F h (AS4 N R)) (hn : ∀ F h,N F h→Q .normal F h) (hr : ∀ F h,R F h→Q .ret F h) :
 ACG E H x y F h Q (.bool b):=⟨fun e=>VG N R (h1 e) hn hr,fun e=>VG N R (h2 e) hn hr⟩
def isB (v:AV) (b:Nat):Prop:=match v with
 | .own b' _ _=>b'=b
 | _=>False
def sv (h:Hp) (m:Nat) (v:AV):Prop := ∃ vs:List ByteArray,vs.length≤m∧((vs = []∧∃ k,v = .sl .nil k [])∨∃ b,v = .own b 0 vs.length∧h[b]? = some (.live 1 (vs.map encStr)))
theorem ATK (G:Nat→AV) (k:Nat) (v:ByteArray) (h:Hp):PCall (En G) 180 [.sl .nil k [],.str v] h (.bool false):=by
 refine acN Tryz.func180 rfl ?_
 show awp _ _ _ _ _ (EE _ [.tmp 4] _)
 simp -implicitDefEqProofs only [BC,CB,A8,A7,AZ,BA,AC,AQ,AO,BD,AX,AL,AU,BG,BM,BB,jA,jC,enX,enP]
 refine D7 (fun n F H=>F 0 = .sl .nil k []∧F 5 = .int .i64 0∧H=h) 0 ⟨rfl,rfl,rfl⟩ ?_
 rintro n F H ⟨f0,f5,rfl⟩
 simp -implicitDefEqProofs only [BC,A8,BJ,A7,AZ,BA,AC,AQ,AO,BD,AX,AL,AA,AY,BH,BU,E5,AB,DF,↓reduceIte,jB,jA,jC,enP,ZQ,f0,f5,List.length_nil]
 have:decide ((0:Int) < ((0:Nat):Int))=false:=by simp
 simp -implicitDefEqProofs only [BC,A8,BK,D6,A7,EU,FT,FX,CU,DX,AZ,BA,AC,AQ,AO,BD,AX,AL,AA,AU,BM,BB,↓reduceIte,jA,jC,this]
 exact ⟨trivial,trivial⟩
theorem AAS {α:Type} {f:α→List AV} {xs:List α} {k:Nat} (hk:k < xs.length):(xs.map f)[k]? = some (f xs[k]):=by
 rw [List.getElem?_map,List.getElem?_eq_getElem hk]; rfl
theorem TJ {h x:Hp} {y:ABlk} {b:Nat} (hb:h[b]? = some y):(h ++ x)[b]? = some y:=by
 rw [zW (CP hb)]; exact hb
theorem ATJ (G:Nat→AV) (xs:List ByteArray) (b:Nat) (v:ByteArray) (h:Hp) (hb:h[b]? = some (.live 1 (xs.map encStr))) (hl:xs.length≤1099511627776) :
  PCall (En G) 180 [.own b 0 xs.length,.str v] h (.bool (LY xs v)):=by
 refine acN Tryz.func180 rfl ?_
 show awp _ _ _ _ _ (EE _ [.tmp 4] _)
 simp -implicitDefEqProofs only [BC,CB,A8,A7,AZ,BA,AC,AQ,AO,BD,AX,AL,AU,BG,BM,BB,jA,jC,enX,enP]
 refine D7 (fun n F H => ∃ k,n+k=xs.length∧F 0 = .own b 0 xs.length∧F 1 = .str v∧F 5 = .int .i64 (k:Nat)∧H=h∧LY xs v=LY (xs.drop k) v) xs.length ⟨0,by simp,rfl,rfl,rfl,rfl,rfl⟩ ?_
 rintro n F H ⟨k,hk,f0,f1,f5,rfl,hin⟩
 simp -implicitDefEqProofs only [BC,A8,BJ,A7,AZ,BA,AC,AQ,AO,BD,AX,AL,AA,AY,BH,BU,E5,AB,DF,↓reduceIte,jB,jA,jC,enP,ZQ,f0,f1,f5]
 refine CV (fun hc => ?_) (fun hc => ?_)
 ·have hc':k < xs.length:=by simpa using hc
  have hs:LY (xs.drop k) v=((v.toList == xs[k].toList) || LY (xs.drop (k+1)) v):=ACV _ xs k hc'
  have l1:DL Tryz.prog H 9 (.ptr b k 0)=some (.str xs[k]):=by rw [DC ag9 hb (row:=encStr xs[k]) (AAS hc')]; rfl
  simp -implicitDefEqProofs only [BC,CB,A8,BR,BJ,A7,AZ,BA,AC,AQ,AO,BD,AX,AL,AA,AY,BH,BP,BU,CQ,AB,KQ,↓reduceIte,jB,jG,jA,jC,enP,AHH,f0,f1,f5,J9 hb hc',l1]
  refine CV (fun hb => ?_) (fun hb => ?_)
  ·simp -implicitDefEqProofs only [BC,A8,BK,A7,CJ,D5,FV,CU,AZ,BA,AC,AQ,AO,BD,AX,AL,AA,AU,BM,BB,↓reduceIte,jA,jC]
   refine ⟨?_,trivial⟩
   rw [hin,hs,show (v.toList == xs[k].toList)=true by rw [BEq.comm]; exact hb]; rfl
  ·simp -implicitDefEqProofs only [A8,BR,A7,EK,FI,AZ,BA,AC,AQ,AO,BD,AX,AL,AA,AY,AU,BG,BH,BB,BU,AB,DY,↓reduceIte,jB,jA,jC,enP,f5,wrap_succ (show k < 9223372036854775807 by omega)]
   refine ⟨n - 1,by omega,k+1,by omega,f0,f1,rfl,trivial,?_⟩
   rw [hin,hs,show (v.toList == xs[k].toList)=false by rw [BEq.comm]; exact hb]; rfl
 ·have hc' : ¬ k < xs.length:=by simpa using hc
  simp -implicitDefEqProofs only [BC,A8,BK,D6,A7,EU,FT,FX,CU,AZ,BA,AC,AQ,AO,BD,AX,AL,AA,AU,BM,BB,↓reduceIte,jA,jC]
  exact ⟨by rw [hin,List.drop_eq_nil_of_le (by omega)]; rfl,trivial⟩
theorem AP3 (G:Nat→AV) {h:Hp} {m:Nat} {v:AV} (s:ByteArray) (hv:sv h m v) (hm:m≤1099511627776) : ∃ r,PCall (En G) 180 [v,.str s] h (.bool r):=by
 obtain ⟨vs,hl,⟨_,k,rfl⟩ | ⟨b,rfl,hb⟩⟩:=hv
 ·exact ⟨_,ATK G k s h⟩
 ·exact ⟨_,ATJ G vs b s h hb (by omega)⟩
theorem AQ3 (h:Hp) (s:ByteArray):FU Tryz.prog false h 120 1 [(0,.str s)]=some (.sl .full 1 [[.str s]],h):=by kernel_rfl
theorem ARK {h:Hp} {m:Nat} {v:AV} (s:ByteArray) (hv:sv h m v) (hm:m≤1099511627776) : ∃ v' h',IQ Tryz.prog true h 120 120 v (.sl .full 1 [[.str s]])=some (v',h')∧sv h' (m+1) v'∧(∀ b,isB v' b→b=h.length) ∧
  h.length≤h'.length∧∀ b,b < h.length→¬ isB v b→h'[b]? = h[b]? := by
 obtain ⟨vs,hl,⟨rfl,k,rfl⟩ | ⟨b,rfl,hb⟩⟩:=hv
 ·refine ⟨_,_,AFZ AON sz9 AN3 AQ1 (PD h .full 1 [[.str s]]) (by simp) (OZ (by simp) (by omega)),⟨[s],by simp,.inr ⟨h.length,rfl,C9 _ _⟩⟩,fun b hb=>hb.symm,by simp,fun b hb _=>zW hb⟩
 ·have hc:KF h (.own b 0 vs.length)=some (1,vs.map encStr):=by
   rw [VD hb (by simp),List.drop_zero,jX (by simp)]
  refine ⟨_,_,AFY AON sz9 AN3 AQ1 hc (PD h .full 1 [[.str s]]) (by simp) (by unfold room; simp; omega),⟨vs ++ [s],by simp; omega,.inr ⟨h.length,by simp,by simp [encStr]⟩⟩,fun b hb=>hb.symm,by simp,fun o ho hn => ?_⟩
  rw [zW (by simpa using ho)]
  have hn' : ¬ b=o:=hn
  rw [jY,if_neg hn']
def wRow (n dd:Nat) (f:Int) (v1 v2:AV):List AV := [.int .i64 n,.int .i64 dd,.int .i64 f,v1,v2]
structure St (h:Hp) (c m1 m2 n dd:Nat) (f:Int) (v1 v2:AV):Prop where
 w:h[c]? = some (.live 5 [wRow n dd f v1 v2])
 s1:sv h m1 v1
 s2:sv h m2 v2
 ap : ∀ b,isB v1 b→¬ isB v2 b
theorem sv.b {h:Hp} {m:Nat} {v:AV} {b:Nat} (hs:sv h m v) (hb:isB v b) : ∃ vs:List ByteArray,h[b]? = some (.live 1 (vs.map encStr)):=by
 obtain ⟨vs,_,⟨_,k,rfl⟩ | ⟨b',rfl,h'⟩⟩:=hs
 ·exact hb.elim
 ·cases hb; exact ⟨vs,h'⟩
theorem sv.ne {h:Hp} {m b c:Nat} {v:AV} {row:List AV} (hs:sv h m v) (hc:h[c]? = some (.live 5 [row])) (hb:isB v b):b≠c:=by
 intro e; subst e
 obtain ⟨vs,h'⟩:=hs.b hb
 rw [h'] at hc; cases hc
theorem sv.keep {h h':Hp} {m m':Nat} {v:AV} (hs:sv h m v) (hm:m≤m') (hk : ∀ b,isB v b→h'[b]? = h[b]?):sv h' m' v:=by
 obtain ⟨vs,hl,⟨e,k,rfl⟩ | ⟨b,rfl,hb⟩⟩:=hs
 ·exact ⟨vs,by omega,.inl ⟨e,k,rfl⟩⟩
 ·exact ⟨vs,by omega,.inr ⟨b,rfl,by rw [hk b rfl]; exact hb⟩⟩
structure Ch (c:Nat) (v1 v2:AV) (h:Hp) (v1' v2':AV) (h':Hp):Prop where
 len:h.length≤h'.length
 get : ∀ b,b < h.length→b≠c→¬ isB v1 b→¬ isB v2 b→h'[b]? = h[b]?
 n1 : ∀ b,isB v1' b→isB v1 b∨h.length≤b
 n2 : ∀ b,isB v2' b→isB v2 b∨h.length≤b
theorem Ch.refl (c:Nat) (v1 v2:AV) (h:Hp):Ch c v1 v2 h v1 v2 h:=⟨jL _,fun _ _ _ _ _=>rfl,fun _ h => .inl h,fun _ h => .inl h⟩
theorem Ch.trans {c:Nat} {v1 v2 u1 u2 w1 w2:AV} {a b d:Hp} (h1:Ch c v1 v2 a u1 u2 b) (h2:Ch c u1 u2 b w1 w2 d):Ch c v1 v2 a w1 w2 d:=by
 refine ⟨Nat.le_trans h1.len h2.len,fun i hi hc hv hu => ?_,fun i hi => ?_,fun i hi => ?_⟩
 ·rw [h2.get i (Nat.lt_of_lt_of_le hi h1.len) hc (fun e=>(h1.n1 i e).elim hv (fun e=>by omega)) (fun e=>(h1.n2 i e).elim hu (fun e=>by omega)),h1.get i hi hc hv hu]
 ·rcases h2.n1 i hi with h | h
  ·exact h1.n1 i h
  ·exact .inr (Nat.le_trans h1.len h)
 ·rcases h2.n2 i hi with h | h
  ·exact h1.n2 i h
  ·exact .inr (Nat.le_trans h1.len h)
theorem Ch.app (c:Nat) (v1 v2:AV) (h x:Hp):Ch c v1 v2 h v1 v2 (h ++ x):=⟨by simp,fun _ hi _ _ _=>zW hi,fun _ h => .inl h,fun _ h => .inl h⟩
theorem Ch.set (c:Nat) (v1 v2:AV) (h:Hp) (x:ABlk):Ch c v1 v2 h v1 v2 (h.set c x):=⟨by simp,fun _ _ hc _ _=>by rw [jY,if_neg (fun e=>hc e.symm)],fun _ h => .inl h,fun _ h => .inl h⟩
theorem St.app {h:Hp} {c m1 m2 n dd:Nat} {f:Int} {v1 v2:AV} (s:St h c m1 m2 n dd f v1 v2) (x:Hp):St (h ++ x) c m1 m2 n dd f v1 v2:=by
 have keep : ∀ v m,sv h m v→sv (h ++ x) m v:=fun v m hv=>hv.keep (jL _) fun b hb=>by
  obtain ⟨vs,h'⟩:=hv.b hb
  exact zW (CP h')
 exact ⟨TJ s.w,keep _ _ s.s1,keep _ _ s.s2,s.ap⟩
theorem St.set {h:Hp} {c m1 m2 n dd:Nat} {f:Int} {v1 v2:AV} (s:St h c m1 m2 n dd f v1 v2) (n' dd':Nat) (f':Int):St (h.set c (.live 5 [wRow n' dd' f' v1 v2])) c m1 m2 n' dd' f' v1 v2:=by
 have keep : ∀ v m,sv h m v→sv (h.set c (.live 5 [wRow n' dd' f' v1 v2])) m v:=fun v m hv=>hv.keep (jL _) fun b hb=>by
  rw [jY,if_neg (fun e=>hv.ne s.w hb e.symm)]
 exact ⟨G7 s.w,keep _ _ s.s1,keep _ _ s.s2,s.ap⟩
section
variable {h:Hp} {c m1 m2 n dd:Nat} {f:Int} {v1 v2:AV} (s:St h c m1 m2 n dd f v1 v2)
include s
theorem St.l0:DL Tryz.prog h 3 (.ptr c 0 0)=some (.int .i64 n):=by rw [DC ag3 s.w (row:=wRow n dd f v1 v2) rfl]; rfl
theorem St.l1:DL Tryz.prog h 3 (.ptr c 0 1)=some (.int .i64 dd):=by rw [DC ag3 s.w (row:=wRow n dd f v1 v2) rfl]; rfl
theorem St.l2:DL Tryz.prog h 35 (.ptr c 0 2)=some (.int .i64 f):=by rw [DC ARP s.w (row:=wRow n dd f v1 v2) rfl]; rfl
theorem St.l3:DL Tryz.prog h 120 (.ptr c 0 3)=some v1:=by rw [DC AEH s.w (row:=wRow n dd f v1 v2) rfl]; rfl
theorem St.l4:DL Tryz.prog h 120 (.ptr c 0 4)=some v2:=by rw [DC AEH s.w (row:=wRow n dd f v1 v2) rfl]; rfl
theorem St.t0 (x:Nat):F7 Tryz.prog h 3 (.ptr c 0 0) (.int .i64 x)=some (h.set c (.live 5 [wRow x dd f v1 v2])):=by
 rw [JG (W9 _ _) sz3 s.w (row:=wRow n dd f v1 v2) rfl (by simp [wRow])]; rfl
theorem St.t1 (x:Nat):F7 Tryz.prog h 3 (.ptr c 0 1) (.int .i64 x)=some (h.set c (.live 5 [wRow n x f v1 v2])):=by
 rw [JG (W9 _ _) sz3 s.w (row:=wRow n dd f v1 v2) rfl (by simp [wRow])]; rfl
theorem St.t2 (x:Int):F7 Tryz.prog h 35 (.ptr c 0 2) (.int .i64 x)=some (h.set c (.live 5 [wRow n dd x v1 v2])):=by
 rw [JG (W9 _ _) AVO s.w (row:=wRow n dd f v1 v2) rfl (by simp [wRow])]; rfl
end
theorem St.app3 {h:Hp} {c m1 m2 n dd:Nat} {f:Int} {v1 v2:AV} (s:St h c m1 m2 n dd f v1 v2) (x:ByteArray) (hm:m1≤1099511627776) :
  ∃ v' h',IQ Tryz.prog true h 120 120 v1 (.sl .full 1 [[.str x]])=some (v',h')∧F7 Tryz.prog h' 120 (.ptr c 0 3) v'=some (h'.set c (.live 5 [wRow n dd f v' v2])) ∧
    St (h'.set c (.live 5 [wRow n dd f v' v2])) c (m1+1) m2 n dd f v' v2∧Ch c v1 v2 h v' v2 (h'.set c (.live 5 [wRow n dd f v' v2])):=by
 obtain ⟨v',h',ha,hs,hb,hl,hk⟩:=ARK x s.s1 hm
 have hc1 : ¬ isB v1 c:=fun e=>s.s1.ne s.w e rfl
 have hc2 : ¬ isB v2 c:=fun e=>s.s2.ne s.w e rfl
 have hcl:=CP s.w
 have hw:h'[c]? = some (.live 5 [wRow n dd f v1 v2]):=by rw [hk c hcl hc1]; exact s.w
 have hvc : ∀ b,isB v' b→b≠c:=fun b hb' e=>by have:=hb b hb'; omega
 have hac:I8 v'=some [v']:=by
  obtain ⟨vs,_,⟨_,k,rfl⟩ | ⟨b,rfl,_⟩⟩:=hs <;> rfl
 refine ⟨v',h',ha,by rw [JG hac AOS hw (row:=wRow n dd f v1 v2) rfl (by simp [wRow])]; rfl,⟨G7 hw,hs.keep (jL _) fun b hb' => ?_,s.s2.keep (jL _) fun b hb' => ?_,fun b h1 h2 => ?_⟩,⟨by simpa using hl,fun b hbl hne h1 h2 => ?_,fun b hb' => .inr (by rw [hb b hb']; exact jL _),fun b hb' => .inl hb'⟩⟩
 ·rw [jY,if_neg (fun e=>hvc b hb' e.symm)]
 ·obtain ⟨_,hx⟩:=s.s2.b hb'
  rw [jY,if_neg (fun e=>hc2 (by rw [e]; exact hb')),hk b (CP hx) (fun e=>s.ap b e hb')]
 ·obtain ⟨_,hx⟩:=s.s2.b h2
  have:=hb b h1; have:=CP hx; omega
 ·rw [jY,if_neg (fun e=>hne e.symm),hk b hbl h1]
theorem St.app4 {h:Hp} {c m1 m2 n dd:Nat} {f:Int} {v1 v2:AV} (s:St h c m1 m2 n dd f v1 v2) (x:ByteArray) (hm:m2≤1099511627776) :
  ∃ v' h',IQ Tryz.prog true h 120 120 v2 (.sl .full 1 [[.str x]])=some (v',h')∧F7 Tryz.prog h' 120 (.ptr c 0 4) v'=some (h'.set c (.live 5 [wRow n dd f v1 v'])) ∧
    St (h'.set c (.live 5 [wRow n dd f v1 v'])) c m1 (m2+1) n dd f v1 v'∧Ch c v1 v2 h v1 v' (h'.set c (.live 5 [wRow n dd f v1 v'])):=by
 obtain ⟨v',h',ha,hs,hb,hl,hk⟩:=ARK x s.s2 hm
 have hc1 : ¬ isB v1 c:=fun e=>s.s1.ne s.w e rfl
 have hc2 : ¬ isB v2 c:=fun e=>s.s2.ne s.w e rfl
 have hcl:=CP s.w
 have hw:h'[c]? = some (.live 5 [wRow n dd f v1 v2]):=by rw [hk c hcl hc2]; exact s.w
 have hvc : ∀ b,isB v' b→b≠c:=fun b hb' e=>by have:=hb b hb'; omega
 have hac:I8 v'=some [v']:=by
  obtain ⟨vs,_,⟨_,k,rfl⟩ | ⟨b,rfl,_⟩⟩:=hs <;> rfl
 refine ⟨v',h',ha,by rw [JG hac AOS hw (row:=wRow n dd f v1 v2) rfl (by simp [wRow])]; rfl,⟨G7 hw,s.s1.keep (jL _) fun b hb' => ?_,hs.keep (jL _) fun b hb' => ?_,fun b h1 h2 => ?_⟩,⟨by simpa using hl,fun b hbl hne h1 h2 => ?_,fun b hb' => .inl hb',fun b hb' => .inr (by rw [hb b hb']; exact jL _)⟩⟩
 ·obtain ⟨_,hx⟩:=s.s1.b hb'
  rw [jY,if_neg (fun e=>hc1 (by rw [e]; exact hb')),hk b (CP hx) (fun e=>s.ap b hb' e)]
 ·rw [jY,if_neg (fun e=>hvc b hb' e.symm)]
 ·obtain ⟨_,hx⟩:=s.s1.b h1
  have:=hb b h2; have:=CP hx; omega
 ·rw [jY,if_neg (fun e=>hne e.symm),hk b hbl h2]
def VR (z:Int) (xs:List Ex):Int:=xs.foldl (fun z e=>if z=0 then I4 e else z) z
theorem AHW (z:Int) (xs ys:List Ex):VR z (xs ++ ys)=VR (VR z xs) ys:=List.foldl_append
theorem St.weak {h:Hp} {c m1 m2 m1' m2' n dd:Nat} {f:Int} {v1 v2:AV} (s:St h c m1 m2 n dd f v1 v2) (h1:m1≤m1') (h2:m2≤m2'):St h c m1' m2' n dd f v1 v2 :=
 ⟨s.w,s.s1.keep h1 fun _ _=>rfl,s.s2.keep h2 fun _ _=>rfl,s.ap⟩
def Md (e:Ex) (c d:Nat) (v1 v2:AV) (h:Hp) (m1 m2 n dd:Nat) (f:Int) (F:Nat→AV) (H:Hp):Prop :=
 F 0 = .ptr c 0 0∧F 2 = .int .i64 (d:Nat)∧F 4 = .ptr h.length 0 0∧∃ u1 u2,St H c m1 m2 n dd f u1 u2∧Ch c v1 v2 (h ++ [.live 4 [CW e]]) u1 u2 H
theorem AG5 (xs:List Ex):(II xs).length≤wts xs:=by
 induction xs with
 | nil=>simp [II,wts]
 | cons x xs ih=>have:=WF x; simp only [II,wts,zX]; omega
theorem AGE : ∀ (xs:List Ex) (j:Nat) (hj:j < xs.length),wts (xs.take j)+wt xs[j]≤wts xs
 | x :: xs,0,_=>by simp [wts]
 | x :: xs,j+1,h=>by
   have:=AGE xs j (by simpa using h)
   simp only [qO,wts,List.getElem_cons_succ]; omega
theorem YB : ∀ (xs:List Ex) (j:Nat),deps (xs.take j)≤wts xs
 | [],j=>by simp [deps,wts]
 | x :: xs,0=>by simp [deps]
 | x :: xs,j+1=>by
   have h1:=YB xs j
   have h2:=AQT x
   simp only [qO,deps,wts]; omega
theorem ASF (G:Nat→AV) (c:Nat) (e:Ex):WN e→∀ (h:Hp) (d n dd:Nat) (f:Int) (v1 v2:AV),d+wt e≤549755813888→n+wt e≤549755813888→dd≤1099511627776→St h c n n n dd f v1 v2 →
  ACalls (En G) 148 [.ptr c 0 0,.agg (CW e),.int .i64 (d:Nat)] h fun _ h' => ∃ u1 u2,St h' c (n+(pre e).length) (n+(pre e).length) (n+(pre e).length) (max dd (d+deps e.args)) (VR f (pre e)) u1 u2∧Ch c v1 v2 h u1 u2 h':=by
 induction e using Ex.induct with | h e ih => ?_
 intro hwn h d n dd f v1 v2 hd hn hdd s
 have hw:=hwn.1
 have hnm:e.name.size≤1048576:=hwn.2 e (by rw [pre_eq]; simp)
 have hal:e.args.length≤wts e.args:=XC e.args
 have hwe:=PQ e
 have hcl:=CP s.w
 have hbox : ∀ (u1 u2:AV) (H:Hp),Ch c v1 v2 (h ++ [.live 4 [CW e]]) u1 u2 H→H[h.length]? = some (.live 4 [CW e]):=by
  intro u1 u2 H hC
  rw [hC.get h.length (by simp) (by omega) (fun hb => ?_) (fun hb => ?_)]
  ·exact C9 _ _
  ·obtain ⟨_,hx⟩:=s.s1.b hb
   have:=CP hx; omega
  ·obtain ⟨_,hx⟩:=s.s2.b hb
   have:=CP hx; omega
 have lb0 : ∀ H:Hp,H[h.length]? = some (.live 4 [CW e])→DL Tryz.prog H 3 (.ptr h.length 0 0)=some (.int .i64 e.op):=fun H hH=>by rw [DC ag3 hH (row:=CW e) rfl,JE]
 have lb2 : ∀ H:Hp,H[h.length]? = some (.live 4 [CW e])→DL Tryz.prog H 9 (.ptr h.length 0 2)=some (.str e.name):=fun H hH=>by rw [DC ag9 hH (row:=CW e) rfl,O9]
 have lb3 : ∀ H:Hp,H[h.length]? = some (.live 4 [CW e])→DL Tryz.prog H 23 (.ptr h.length 0 3)=some (.sl e.m 4 (e.args.map CW)):=fun H hH=>by rw [DC QU hH (row:=CW e) rfl,SB]
 refine JB (H:=hint [56,85] []) (enM G) Tryz.func148 rfl (by kernel_rfl) (by kernel_rfl) (jH (by kernel_rfl)) ?_
 show awp _ _ _ _ _ (EE _ [] _)
 have s0:=s.app [.live 4 [CW e]]
 have c0:=Ch.app c v1 v2 h [.live 4 [CW e]]
 simp -implicitDefEqProofs only [EI,jP,jR,jS,jO,BC,A8,A7,AZ,BA,AO,BD,AX,AL,DZ,AA,AY,AU,BG,BH,FN,BP,CZ,BU,BI,BZ,AB,CE,DY,BF,BQ,↓reduceIte,jB,jI,jG,jA,jC,enP,ALN,AFI,E8,jJ,ER,FK,bxE,s0.l0,wrap_succ (show n < 9223372036854775807 by omega),s0.t0]
 have s1:=s0.set (n+1) dd f
 have c1:=Ch.set c v1 v2 (h ++ [.live 4 [CW e]]) (.live 5 [wRow (n+1) dd f v1 v2])
 clear s0
 generalize (h ++ [ABlk.live 4 [CW e]]).set c (.live 5 [wRow (n+1) dd f v1 v2])=H1 at s1 c1 ⊢
 simp -implicitDefEqProofs only [EI,jP,jR,jS,jO,BJ,A7,AZ,BA,AO,BD,AX,AL,AA,AY,BU,AB,EY,↓reduceIte,jB,jA,jC,enP,E8,s1.l1]
 refine QL (Md e c d v1 v2 h n n (n+1) (max dd d) f) (fun _ _=>False) (fun hb => ?_) (fun hb => ?_) ?_ (fun _ _ hh=>hh.elim)
 ·simp -implicitDefEqProofs only [EI,jP,jR,jS,jO,A8,NU,AZ,BA,AO,BD,AX,AL,DZ,AA,AY,BH,CZ,BI,AB,CE,BF,BQ,↓reduceIte,jB,jG,jA,jC,enP,AFI,E8,jJ,ER,FK,s1.t1]
  refine ⟨rfl,rfl,rfl,v1,v2,?_,c1.trans (Ch.set c _ _ _ _)⟩
  have:max dd d=d:=by simp at hb; omega
  rw [this]
  exact s1.set (n+1) d f
 ·simp -implicitDefEqProofs only [BR,NU]
  refine ⟨rfl,rfl,rfl,v1,v2,?_,c1⟩
  have:max dd d=dd:=by simp at hb; omega
  rw [this]
  exact s1
 clear s1 c1
 rintro F H ⟨f0,f2,f4,u1,u2,s,hC⟩
 simp -implicitDefEqProofs only [EI,jP,jR,jS,jO,BC,A8,BJ,A7,AZ,BA,AO,BD,AX,AL,AA,AY,AU,BG,BH,BP,BU,BI,AB,DJ,↓reduceIte,jG,jA,jC,enP,X5,E8,ER,FK,f0,s.l2]
 refine QL (Md e c d v1 v2 h n n (n+1) (max dd d) (VR f [e])) (fun _ _=>False) (fun hb => ?_) (fun hb => ?_) ?_ (fun _ _ hh=>hh.elim)
 ·simp -implicitDefEqProofs only [EI,jP,jR,jS,jO,A8,AZ,AO,BD,AX,AL,AA,AY,BO,BH,BP,BV,BN,AB,jF,jD,jE,↓reduceIte,jB,jA,jC,enP,E8,f0,f2,f4,IR (hbox _ _ _ hC)]
  refine (AMA G e _ hnm).use ?_
  simp -implicitDefEqProofs only [EI,jP,jR,jS,jO,NU,AZ,BA,AO,BD,AX,AL,DZ,AA,AY,CZ,BI,AB,CE,↓reduceIte,jB,jG,jA,jC,enP,X5,E8,jJ,ER,FK,s.t2,f0,f2,f4]
  refine ⟨f0,f2,f4,u1,u2,?_,hC.trans (Ch.set c _ _ _ _)⟩
  have:VR f [e]=I4 e:=by
   have:f=0:=by simpa using hb
   subst this; rfl
  rw [this]
  exact s.set _ _ _
 ·simp -implicitDefEqProofs only [BR,NU]
  refine ⟨f0,f2,f4,u1,u2,?_,hC⟩
  have:VR f [e]=f:=by
   have:f≠0:=by simpa using hb
   show (if f=0 then I4 e else f)=f
   rw [if_neg this]
  rw [this]; exact s
 clear f0 f2 f4 s hC
 rintro F H ⟨f0,f2,f4,u1,u2,s,hC⟩
 simp -implicitDefEqProofs only [BC,A7]
 refine EX (by kernel_rfl) ?_
 have hB:=hbox _ _ _ hC
 refine ARY (fun F H=>(∃ b,F 47 = .bool b)∧Md e c d v1 v2 h n n (n+1) (max dd d) (VR f [e]) F H) ?_ ?_
 ·cases b2:(e.op == 2)
  ·simp -implicitDefEqProofs only [FC,EI,jP,jR,jS,jO,DV,CY,EC,DW,D9,ET,SL,EP,F6,ED,IJ,DN,CG,AA,EG,AY,AU,BG,BM,CO,DU,BP,BU,BI,AB,DJ,↓reduceIte,jB,jK,jI,jA,enP,GU,f0,f2,f4,lb0 _ hB,b2]
   exact ⟨⟨_,rfl⟩,f0,f2,f4,u1,u2,s,hC⟩
  ·obtain ⟨r,hr⟩:=AP3 G e.name s.s1 (by omega)
   simp -implicitDefEqProofs only [FC,EI,jP,jR,jS,jO,DV,CY,DW,D9,ET,PS,EP,ED,IJ,AR1,DN,EW,EJ,CG,AA,AY,AU,BO,BG,BP,BU,I5,BI,AB,DJ,jF,jD,jE,↓reduceIte,jB,jK,jI,jG,jA,enP,GU,KO,ALM,ER,GK,FK,f0,f2,f4,lb0 _ hB,lb2 _ hB,b2,s.l3]
   refine ⟨_,hr,?_⟩
   simp -implicitDefEqProofs only [FC,EI,jP,jR,jS,jO,DV,CY,EC,DW,F6,AA,AY,AU,BM,CO,DK,AB,FO,↓reduceIte,jB,jK,jA,f0,f2,f4]
   exact ⟨⟨_,rfl⟩,f0,f2,f4,u1,u2,s,hC⟩
 clear f0 f2 f4 s hC hB
 rintro F H ⟨⟨b,f47⟩,f0,f2,f4,u1,u2,s,hC⟩
 have hB:=hbox _ _ _ hC
 simp -implicitDefEqProofs only [BJ,A7,AY,f47]
 refine QL (Md e c d v1 v2 h (n+1) n (n+1) (max dd d) (VR f [e])) (fun _ _=>False) (fun hb => ?_) (fun hb => ?_) ?_ (fun _ _ hh=>hh.elim)
 ·obtain ⟨v',H',ha,ht,s',hC'⟩:=s.app3 e.name (by omega)
  refine EX (by kernel_rfl) ?_
  simp -implicitDefEqProofs only [FC,FB,ES,EI,jP,jR,jS,jO,DV,CY,GN,EC,DW,EP,PU,ED,GL,DN,OE,NU,AA,AY,GM,BP,CZ,BI,NL,BZ,AB,CE,↓reduceIte,jB,jK,jG,jA,enP,KO,ALM,jJ,ER,GK,FK,f0,f2,f4,lb2 _ hB,s.l3,AQ3,ha,ht]
  exact ⟨f0,f2,f4,_,_,s',hC.trans hC'⟩
 ·simp -implicitDefEqProofs only [BR,NU]
  exact ⟨f0,f2,f4,_,_,s.weak (by omega) (by omega),hC⟩
 clear f0 f2 f4 s hC hB
 rintro F H ⟨f0,f2,f4,u1,u2,s,hC⟩
 have hB:=hbox _ _ _ hC
 simp -implicitDefEqProofs only [BC,A7]
 refine EX (by kernel_rfl) ?_
 refine ARY (fun F H=>(∃ b,F 76 = .bool b)∧Md e c d v1 v2 h (n+1) n (n+1) (max dd d) (VR f [e]) F H) ?_ ?_
 ·obtain ⟨r,hr⟩:=AP3 G e.name s.s2 (by omega)
  cases b2:(e.op == 3)
  ·cases b3:(e.op == 24)
   ·simp -implicitDefEqProofs only [FC,EI,jP,jR,jS,jO,DV,CY,EC,DW,D9,ET,OB,SL,EP,F6,ED,IJ,DN,CG,AA,EG,AY,AU,BG,BM,CO,DU,BP,BU,BI,AB,DJ,↓reduceIte,jB,jK,jI,jA,enP,GU,f0,f2,f4,lb0 _ hB,b2,b3]
    exact ⟨⟨_,rfl⟩,f0,f2,f4,u1,u2,s,hC⟩
   ·simp -implicitDefEqProofs only [FC,EI,jP,jR,jS,jO,DV,CY,DW,D9,ET,PS,OB,EP,F6,ED,IJ,AR1,DN,EW,EJ,CG,AA,AY,AU,BO,BG,BM,CO,DU,BP,BU,I5,BI,AB,DJ,jF,jD,jE,↓reduceIte,jB,jK,jI,jG,jA,enP,GU,KO,AFH,ER,GK,FK,f0,f2,f4,lb0 _ hB,lb2 _ hB,b2,b3,s.l4]
    refine ⟨_,hr,?_⟩
    simp -implicitDefEqProofs only [FC,EI,jP,jR,jS,jO,DV,CY,EC,DW,F6,AA,AY,AU,BM,CO,DK,AB,FO,↓reduceIte,jB,jK,jA,f0,f2,f4]
    exact ⟨⟨_,rfl⟩,f0,f2,f4,u1,u2,s,hC⟩
  ·simp -implicitDefEqProofs only [FC,EI,jP,jR,jS,jO,DV,CY,DW,D9,ET,PS,PI,EP,F6,ED,IJ,AR1,DN,EW,EJ,CG,AA,EG,AY,AU,BO,BG,BM,CO,DK,BP,BU,I5,BI,AB,DJ,jF,jD,jE,↓reduceIte,jB,jK,jI,jG,jA,enP,GU,KO,AFH,ER,GK,FK,f0,f2,f4,lb0 _ hB,lb2 _ hB,b2,s.l4]
   refine ⟨_,hr,?_⟩
   simp -implicitDefEqProofs only [FC,EI,jP,jR,jS,jO,DV,CY,EC,DW,F6,AA,AY,AU,BM,CO,DK,AB,FO,↓reduceIte,jB,jK,jA,f0,f2,f4]
   exact ⟨⟨_,rfl⟩,f0,f2,f4,u1,u2,s,hC⟩
 clear f0 f2 f4 s hC hB f47
 rintro F H ⟨⟨b,f76⟩,f0,f2,f4,u1,u2,s,hC⟩
 have hB:=hbox _ _ _ hC
 simp -implicitDefEqProofs only [BJ,A7,AY,f76]
 refine QL (Md e c d v1 v2 h (n+1) (n+1) (n+1) (max dd d) (VR f [e])) (fun _ _=>False) (fun hb => ?_) (fun hb => ?_) ?_ (fun _ _ hh=>hh.elim)
 ·obtain ⟨v',H',ha,ht,s',hC'⟩:=s.app4 e.name (by omega)
  refine EX (by kernel_rfl) ?_
  simp -implicitDefEqProofs only [FC,FB,ES,EI,jP,jR,jS,jO,Bool.or_true,DV,CY,GN,EC,DW,EP,PU,ED,GL,DN,OE,NU,AA,AY,GM,BP,CZ,BI,NL,BZ,AB,CE,↓reduceIte,jB,jK,jG,jA,enP,KO,AFH,jJ,ER,GK,FK,f0,f2,f4,lb2 _ hB,s.l4,AQ3,ha,ht]
  exact ⟨f0,f2,f4,_,_,s',hC.trans hC'⟩
 ·simp -implicitDefEqProofs only [BR,NU]
  exact ⟨f0,f2,f4,_,_,s.weak (by omega) (by omega),hC⟩
 clear f0 f2 f4 s hC hB f76
 rintro F H ⟨f0,f2,f4,u1,u2,s,hC⟩
 simp -implicitDefEqProofs only [EI,jP,jR,jS,jO,BC,CB,A8,A7,AZ,BA,AO,BD,AX,AL,AU,BG,BB,jA,jC,E8]
 refine D7 (fun k F H => ∃ j,k+j=e.args.length∧F 6 = .int .i64 (j:Nat)∧Md e c d v1 v2 h (n+1+(II (e.args.take j)).length) (n+1+(II (e.args.take j)).length) (n+1+(II (e.args.take j)).length) (max dd (d+deps (e.args.take j))) (VR (VR f [e]) (II (e.args.take j))) F H) e.args.length ⟨0,by simp,rfl,f0,f2,f4,u1,u2,s,hC⟩ ?_
 clear f0 f2 f4 s hC
 rintro k F H ⟨j,hj,f6,f0,f2,f4,u1,u2,s,hC⟩
 have hB:=hbox _ _ _ hC
 simp -implicitDefEqProofs only [EI,jP,jR,jS,jO,BC,A8,BJ,A7,AZ,BA,AO,BD,AX,AL,AA,AY,BH,BP,BU,BI,E5,AB,DF,↓reduceIte,jB,jG,jA,jC,enP,TT,JW,E8,f6,f4,lb3 _ hB,jM]
 refine CV (fun hlt => ?_) (fun hlt => ?_)
 ·have hj':j < e.args.length:=by simpa using hlt
  have hmem:e.args[j]∈e.args:=jQ hj'
  have hwa:=UX hmem
  have hpl:(II (e.args.take j)).length+(pre e.args[j]).length≤wts e.args:=by
   have h1:=AG5 e.args
   have h2:II e.args=II (e.args.take j) ++ (pre e.args[j] ++ II (e.args.drop (j+1))):=by
    rw [← zY,← J6 _ _ hj',← LV,List.take_append_drop]
   rw [h2] at h1; simp at h1; omega
  have hsp:(II (e.args.take j)).length+wt e.args[j]≤wts e.args:=by
   have h1:=AG5 (e.args.take j)
   have h2:=AGE e.args j hj'
   omega
  have hdt:deps (e.args.take j)≤wts e.args:=YB e.args j
  simp -implicitDefEqProofs only [EI,jP,jR,jS,jO,BC,CB,A8,BR,A7,AZ,AO,BD,AX,AL,AA,AY,AU,BO,BG,BH,BP,BU,BI,CQ,BV,BN,AB,DY,jF,jD,jE,↓reduceIte,jB,jG,jA,jC,enP,P9,JW,E8,f0,f2,f4,f6,lb3 _ hB,EF hj',EO MK J4 EN hj',wrap_succ (show d < 9223372036854775807 by omega)]
  refine (ih e.args[j] hmem ⟨by omega,fun x hx=>hwn.2 x (by rw [pre_eq]; exact List.mem_cons_of_mem _ (LG hmem x hx))⟩ H (d+1) _ _ _ u1 u2 (by omega) (by omega) (by omega) s).mono ?_
  rintro v H' ⟨w1,w2,s',hC'⟩
  simp -implicitDefEqProofs only [EI,jP,jR,jS,jO,A8,A7,EK,FI,AZ,BA,AO,BD,AX,AL,AA,AY,AU,BG,BH,BB,BU,AB,DY,↓reduceIte,jB,jA,jC,enP,E8,f6,wrap_succ (show j < 9223372036854775807 by omega)]
  refine ⟨k - 1,by omega,j+1,by omega,rfl,f0,f2,f4,w1,w2,?_,hC.trans hC'⟩
  rw [J6 _ _ hj',AD8 _ _ hj',AHW,zX]
  have e1:max (max dd (d+deps (e.args.take j))) (d+1+deps e.args[j].args)=max dd (d+max (deps (e.args.take j)) (dep e.args[j])):=by
   rw [AFQ]; omega
  rw [e1,Nat.add_assoc (n+1)] at s'
  exact s'
 ·have hj' : ¬ j < e.args.length:=by simpa using hlt
  rw [jX (by omega)] at s
  simp -implicitDefEqProofs only [D6,EU,FT,FX,JK,↓reduceIte]
  refine ⟨u1,u2,?_,c0.trans hC⟩
  have e1:n+1+(II e.args).length=n+(pre e).length:=by rw [pre_eq]; simp; omega
  have e2:VR (VR f [e]) (II e.args)=VR f (pre e):=by rw [pre_eq,← AHW]; rfl
  rw [e1,e2] at s
  exact s
theorem AZ0:JZ Tryz.prog 122 []=some (.agg [.int .i64 0,.int .i64 0,.int .i64 0,.sl .nil 0 [],.sl .nil 0 []]):=by kernel_rfl
theorem AZI (h:Hp):PG h (.agg [.int .i64 0,.int .i64 0,.int .i64 0,.sl .nil 0 [],.sl .nil 0 []])=some (.ptr h.length 0 0,h ++ [.live 5 [wRow 0 0 0 (.sl .nil 0 []) (.sl .nil 0 [])]]):=AFT rfl
theorem AO5 (G:Nat→AV) (e:Ex) (hwn:WN e) (h:Hp) :
  ACalls (En G) 99 [.agg (CW e)] h fun v h' => ∃ c m u1 u2,v = .ptr c 0 0∧St h' c m m (pre e).length (dep e) (errs (pre e)) u1 u2∧∃ x,h'=h ++ x:=by
 refine acN Tryz.func99 rfl ?_
 show awp _ _ _ _ _ (EE _ [.tmp 2] _)
 simp -implicitDefEqProofs only [FB,BC,A8,A7,AZ,BA,AC,AQ,AO,BD,AX,AL,AA,AY,AU,BO,BG,AL5,BH,BB,FN,FZ,BP,BV,BN,BZ,AB,BF,jF,jD,jE,↓reduceIte,jB,jA,jC,enP,bxE,AZ0,AZI,IR (CX (C9 h _))]
 have nb : ∀ b,¬ isB (.sl .nil 0 []) b:=fun b hb=>hb
 have hw:=hwn.1
 refine (ASF G _ e hwn _ 1 0 0 0 (.sl .nil 0 []) (.sl .nil 0 []) (by omega) (by omega) (by omega) ⟨C9 _ _,⟨[],by simp,.inl ⟨rfl,_,rfl⟩⟩,⟨[],by simp,.inl ⟨rfl,_,rfl⟩⟩,fun b hb=>(nb b hb).elim⟩).mono ?_
 rintro v h' ⟨u1,u2,s,hC⟩
 simp -implicitDefEqProofs only [BC,A8,BK,A7,CU,AZ,BA,AC,AQ,AO,BD,AX,AL,AA,AY,BH,BB,↓reduceIte,jB,jA,jC]
 have e1:0+(pre e).length=(pre e).length:=jG _
 have e2:max 0 (1+deps e.args)=dep e:=by rw [AFQ]; omega
 rw [e1,e2] at s
 refine ⟨_,_,u1,u2,rfl,s,?_⟩
 have hC2:=((Ch.app (h ++ [ABlk.live 4 [CW e]]).length (.sl .nil 0 []) (.sl .nil 0 []) h [.live 4 [CW e]]).trans (Ch.app _ _ _ _ [.live 5 [wRow 0 0 0 (.sl .nil 0 []) (.sl .nil 0 [])]])).trans hC
 refine Chg.above (c:=(h ++ [ABlk.live 4 [CW e]]).length) ⟨hC2.len,fun b hb hne=>hC2.get b hb hne (nb b) (nb b)⟩ (by simp)
theorem X6 (G:Nat→AV) (e:Ex) (h:Hp) (hw:WN e):PCall (En G) 50 [.agg (CW e)] h (.int .i64 (exE e)):=by
 refine ACalls.pure0 rfl ?_
 refine acN Tryz.func50 rfl ?_
 show awp _ _ _ _ _ (EE _ [.tmp 2] _)
 simp -implicitDefEqProofs only [BC,A8,A7,AZ,BA,AC,AQ,AO,BD,AX,AL,AA,AY,AU,BO,BG,BB,FN,BP,BV,BN,BZ,AB,BF,jF,jD,jE,↓reduceIte,jB,jA,jC,enP,bxE,ldE]
 refine (AO5 G e hw _).mono ?_
 rintro v h' ⟨c,m,u1,u2,rfl,s,x,rfl⟩
 simp -implicitDefEqProofs only [BC,A8,A7,AZ,BA,BL,BX,CG,AC,AQ,AO,BD,AX,AL,AA,AY,AU,BG,BH,BB,BP,BU,BI,AB,DJ,↓reduceIte,jG,jA,jC,enP,X5,ER,FK,s.l2]
 rcases he:(errs (pre e) == 0) with _ | _
 ·simp -implicitDefEqProofs only [BC,A8,BR,BK,BJ,A7,CU,DX,AZ,BA,BL,BX,CG,JA,VW,AC,AQ,AO,BD,AX,AL,AA,EG,AY,AU,BM,BH,BB,CO,DU,BP,BI,AB,↓reduceIte,jB,jG,jA,jC,enP,X5,ER,FK,s.l2]
  have:errs (pre e)≠0:=by simpa using he
  exact ⟨by unfold exE; rw [if_neg (fun hh=>this hh.1)],_,by rw [zY]⟩
 have he0:errs (pre e)=0:=by simpa using he
 simp -implicitDefEqProofs only [BL,BX,CG,F8,AC,AQ,AO,BD,AX,AL,AA,AY,AU,BG,BH,BP,BU,BI,AB,EY,↓reduceIte,jB,jG,jA,jC,enP,AFI,ER,FK,s.l1]
 refine IV (fun hd => ?_) (fun hd => ?_)
 ·simp -implicitDefEqProofs only [BC,A8,BK,BJ,A7,CJ,CU,DR,AZ,BA,BL,BX,CG,F8,FY,AC,AQ,AO,BD,AX,AL,AA,EG,AY,AU,BG,BM,BB,CO,DK,↓reduceIte,jB,jA,jC,hd]
  exact ⟨by unfold exE; rw [if_pos ⟨he0,.inl (by simp at hd; omega)⟩],_,by rw [zY]⟩
 simp -implicitDefEqProofs only [BJ,A7,AZ,BA,BL,BX,CG,F8,EM,AC,AQ,AO,BD,AX,AL,AA,AY,AU,BG,BM,BH,CO,DK,DU,BP,BU,BI,AB,EY,↓reduceIte,jB,jI,jA,jC,enP,ALN,ER,FK,hd,s.l0]
 refine CV (fun hn => ?_) (fun hn => ?_)
 ·simp -implicitDefEqProofs only [BC,A8,BK,A7,CJ,CU,AZ,BA,AC,AQ,AO,BD,AX,AL,AA,AU,BG,BB,↓reduceIte,jA,jC]
  exact ⟨by unfold exE; rw [if_pos ⟨he0,.inr (by simp at hn; omega)⟩],_,by rw [zY]⟩
 ·simp -implicitDefEqProofs only [BC,A8,BR,BK,A7,CU,AZ,BA,AC,AQ,AO,BD,AX,AL,AA,AY,BH,BB,BP,BI,AB,↓reduceIte,jB,jG,jA,jC,enP,X5,ER,FK,s.l2]
  exact ⟨by unfold exE; rw [if_neg (fun hh=>by simp at hn hd; omega)],_,by rw [zY]⟩
theorem AHV (G:Nat→AV) (e:Ex) (h:Hp) (hw:wt e≤1048576):PCall (En G) 50 [.agg (CW e)] h (.int .i64 (exE e)):=X6 G e h (AIS hw)
end Go.Proofs.YtokehnfjjmpanaaGreatDoor.Cov
