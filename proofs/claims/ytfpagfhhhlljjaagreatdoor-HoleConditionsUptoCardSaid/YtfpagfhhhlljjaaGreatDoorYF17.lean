/- Part 17 of the proof (O20); no condition. -/
import Derived.Test.YtfpagfhhhlljjaaGreatDoorYF16
set_option linter.unusedVariables false
set_option linter.unusedSimpArgs false
set_option maxRecDepth 8000
namespace Go.Proofs.YtfpagfhhhlljjaaGreatDoor.Ho
open Sm Bins Cov Go.RowKit
open Bool renaming not_true→jV,not_false→jC
open List renaming length→qF,length_map→jH,getElem_mem→jS,getElem?_map→jY,getElem?_eq_getElem→jO
open Nat renaming reduceEqDiff→jB,reduceAdd→jP
open Option renaming getD_some→jA
set_option maxHeartbeats 1000000 in
theorem ANO (G:Nat→AV)(a b:List Xs)(s s':SM)(h:Hp)(hl:a.length≤1048576)(ha : ∀ x∈a,x.l.length≤1048576∧∀ e∈x.l,wt e≤274877906944)(hab:a.map (fun x=>x.l.map cpE)=b.map (fun x=>x.l.map cpE)) :
  PCall (En G) 17 [.sl s 1 (a.map UU),.sl s' 1 (b.map UU)] h (.bool true):=by
 have hll:a.length=b.length:=by have:=congrArg qF hab; simpa using this
 refine acN Tryz.func17 rfl ?_
 show awp _ _ _ _ _ (EJ _ [.tmp 4] _)
 simp -implicitDefEqProofs only[vQ,BD,↓reduceIte,jB,jV,enP,XV,jH,hll,bne,beq_self_eq_true]
 refine DK (fun n F H => ∃ t,n+t=a.length∧F 0 = .sl s 1 (a.map UU)∧F 1 = .sl s' 1 (b.map UU)∧F 5 = .int .i64 (t:Nat)∧H=h) a.length ⟨0,by simp,by simp -implicitDefEqProofs only[vQ,↓reduceIte,jB],by simp -implicitDefEqProofs only[vQ,↓reduceIte,jB],by simp -implicitDefEqProofs only[AA,↓reduceIte] <;> rfl,rfl⟩ ?_
 rintro n F H ⟨t,ht,f0,f1,f5,rfl⟩
 simp -implicitDefEqProofs only[vQ,BD,↓reduceIte,jB,enP,XV,f0,f5,jH]
 refine CU (fun hc => ?_) (fun hc => ?_)
 rotate_left
 ·simp -implicitDefEqProofs only[vQ,BD,↓reduceIte]
  exact⟨by first | exact True.intro | exact rfl,by first | exact True.intro | exact rfl⟩
 have ht':t < a.length:=by simpa using hc
 have htb:t < b.length:=by omega
 obtain⟨hxl,hxw⟩:=ha _ (jS ht')
 have hrow:a[t].l.map cpE=b[t].l.map cpE:=by
  have e1:(a.map (fun x=>x.l.map cpE))[t]? = (b.map (fun x=>x.l.map cpE))[t]? := by rw[hab]
  rw[jY,jY,jO ht',jO htb] at e1
  simpa using e1
 have hrl:a[t].l.length=b[t].l.length:=by have:=congrArg qF hrow; simpa using this
 simp -implicitDefEqProofs only[vQ]
 refine ET (by kernel_rfl) ?_
 simp -implicitDefEqProofs only[vQ,BD,↓reduceIte,jB,jP,jV,enP,ABR,SK,f0,f1,f5,DL ht',DL htb,C9 PX ht',C9 PX htb,AOQ,jH,hrl,bne,beq_self_eq_true]
 refine G6 2 (fun F H'=>F 0 = .sl s 1 (a.map UU)∧F 1 = .sl s' 1 (b.map UU)∧F 5 = .int .i64 (t:Nat)∧H'=H) (fun _ _=>False) ?_ ?_ (fun _ _ q=>q.elim)
 ·refine DK (fun n F H' => ∃ i,n+i=a[t].l.length∧F 0 = .sl s 1 (a.map UU)∧F 1 = .sl s' 1 (b.map UU)∧F 5 = .int .i64 (t:Nat)∧F 6 = .int .i64 (i:Nat)∧H'=H) a[t].l.length ⟨0,by simp,by simp -implicitDefEqProofs only[AA,↓reduceIte,jB,f0],by simp -implicitDefEqProofs only[AA,↓reduceIte,jB,f1],by simp -implicitDefEqProofs only[AA,↓reduceIte,jB,f5],by simp -implicitDefEqProofs only[AA,↓reduceIte] <;> rfl,rfl⟩ ?_
  clear f0 f1 f5
  rintro n2 F H' ⟨i,hi,f0,f1,f5,f6,rfl⟩
  simp -implicitDefEqProofs only[vQ,BD,↓reduceIte,jB,enP,ABR,SK,f0,f5,f6,DL ht',C9 PX ht',AOQ,jH]
  refine CU (fun hd => ?_) (fun hd => ?_)
  ·have hi':i < a[t].l.length:=by simpa using hd
   have hib:i < b[t].l.length:=by omega
   have hce:cpE a[t].l[i]=cpE b[t].l[i]:=by
    have e1:(a[t].l.map cpE)[i]? = (b[t].l.map cpE)[i]? := by rw[hrow]
    rw[jY,jY,jO hi',jO hib] at e1
    simpa using e1
   simp -implicitDefEqProofs only[vQ]
   refine ET (by kernel_rfl) ?_
   simp -implicitDefEqProofs only[vQ,AJG,List.map_cons,List.map_nil,List.append_nil,↓reduceIte,jB,jP,enP,ABR,WH,f0,f1,f5,f6,DL ht',DL htb,C9 PX ht',C9 PX htb,AOQ,DL hi',DL hib,FM TQ LD GU hi',FM TQ LD GU hib]
   refine⟨_,ANN G _ a[t].l[i] b[t].l[i] _ (Nat.le_refl _) (hxw _ (jS hi')) hce,?_⟩
   try simp -implicitDefEqProofs only[vQ,BD,↓reduceIte,jB,jV,enP,f6,wrap_succ (show i < 9223372036854775807 by omega)]
   exact⟨n2 - 1,by omega,i+1,by omega,by first | exact True.intro | exact f0,by first | exact True.intro | exact f1,by first | exact True.intro | exact f5,by first | exact True.intro | exact rfl,by first | exact True.intro | exact rfl⟩
  ·simp -implicitDefEqProofs only[vQ,↓reduceIte,jB]
   exact⟨by first | exact True.intro | exact f0,by first | exact True.intro | exact f1,by first | exact True.intro | exact f5,by first | exact True.intro | exact rfl⟩
 ·rintro F H' ⟨g0,g1,g5,rfl⟩
  simp -implicitDefEqProofs only[vQ,BD,↓reduceIte,jB,enP,g5,wrap_succ (show t < 9223372036854775807 by omega)]
  exact⟨n - 1,by omega,t+1,by omega,by first | exact True.intro | exact g0,by first | exact True.intro | exact g1,by first | exact True.intro | exact rfl,by first | exact True.intro | exact rfl⟩
end Go.Proofs.YtfpagfhhhlljjaaGreatDoor.Ho
