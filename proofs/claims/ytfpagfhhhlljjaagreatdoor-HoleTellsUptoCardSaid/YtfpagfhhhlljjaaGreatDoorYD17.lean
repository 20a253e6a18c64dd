/- Part 17 of the proof (P1, C1, C2, C3, Bs, Bt, C4, P2); no condition. -/
import Derived.Shelf.SlSortCmp.WholeK
import Derived.Shelf.SlSortCmp.NoneTotal
import Derived.Shelf.SlicesG.Cmp
import Derived.Test.YtfpagfhhhlljjaaGreatDoorYD16
set_option linter.unusedVariables false
namespace Go.Proofs.YtfpagfhhhlljjaaGreatDoor.Bins
open Sm
open List renaming foldl_cons→wH
def full (r:Rng):Bool:=decide (r.lo≤r.hi)
def glue (t r:Rng):Bool:=decide (r.lo≤t.hi) || decide (IntKind.i64.wrap (r.lo - 1)=t.hi)
def join (out:List Rng)(r:Rng):List Rng:=match out.getLast? with
 | some t=>if glue t r then out.dropLast++[⟨t.lo,max t.hi r.hi⟩] else out++[r]
 | none=>out++[r]
def AAB (xs:List Rng):List Rng:=xs.foldl join []
def AUL (a b:Rng):Bool:=decide (a.lo≤b.lo)
def normal (xs:List Rng):List Rng:=AAB ((xs.filter full).mergeSort AUL)
theorem ATP {out:List Rng}{a b:Rng}(h:a.lo=b.lo)(ha:full a=true)(hb:full b=true):join (join out a) b=join (join out b) a:=by
 simp only[full,decide_eq_true_eq] at ha hb
 have key : ∀ (init:List Rng) (t r s:Rng),glue t s=true→(join (init++[t]) s)=init++[⟨t.lo,max t.hi s.hi⟩]:=by
  intro init t r s hg
  simp [join,hg]
 cases hl:out.getLast? with
 | none =>
   have:out = []:=by simpa using hl
   subst this
   have e1:join [] a = []++[a]:=rfl
   have e2:join [] b = []++[b]:=rfl
   rw[e1,e2,key [] a a b (by simp [glue]; omega),key [] b b a (by simp [glue]; omega)]
   simp [h,Int.max_comm]
 | some t =>
   obtain⟨init,rfl⟩ : ∃ init,out=init++[t]:=by
    have:=List.getLast?_eq_some_iff.1 hl
    exact this
   have hg:glue t a=glue t b:=by unfold glue; rw[h]
   cases hc:glue t a with
   | true =>
     have hc':glue t b=true:=by rw[← hg]; exact hc
     rw[key init t a a hc,key init t b b hc',key init _ a b (by simp [glue]; omega),key init _ b a (by simp [glue]; omega)]
     simp only[Int.max_assoc,Int.max_comm a.hi b.hi]
   | false =>
     have hc':glue t b=false:=by rw[← hg]; exact hc
     have e1:join (init++[t]) a=(init++[t])++[a]:=by simp [join,hc]
     have e2:join (init++[t]) b=(init++[t])++[b]:=by simp [join,hc']
     rw[e1,e2,key (init++[t]) a a b (by simp [glue]; omega),key (init++[t]) b b a (by simp [glue]; omega)]
     simp [h,Int.max_comm]
theorem A5R {a:Rng}(ha:full a=true) : ∀ (pre:List Rng) (rest out:List Rng),(∀ x∈pre,x.lo=a.lo∧full x=true)→(pre++a :: rest).foldl join out=(a :: (pre++rest)).foldl join out
 | [],rest,out,_=>rfl
 | p :: pre,rest,out,h=>by
   have hp:=h p (by simp)
   have ih:=A5R ha pre rest (join out p) (fun x hx=>h x (by simp [hx]))
   simp only[List.cons_append,wH] at ih ⊢
   rw[ih,ATP hp.1 hp.2 ha]
theorem AHR : ∀ (xs ys:List Rng) (out:List Rng),xs.Perm ys→xs.Pairwise (fun a b=>a.lo≤b.lo)→ys.Pairwise (fun a b=>a.lo≤b.lo)→(∀ x∈xs,full x=true)→xs.foldl join out=ys.foldl join out
 | [],ys,out,hp,_,_,_=>by rw[List.nil_perm.1 hp]
 | a :: xs,ys,out,hp,hx,hy,hf=>by
   have hmem:a∈ys:=hp.subset (by simp)
   obtain⟨pre,rest,rfl⟩:=List.append_of_mem hmem
   have hpre : ∀ x∈pre,x.lo=a.lo∧full x=true:=by
    intro x hxp
    have h1:x.lo≤a.lo:=(List.pairwise_append.1 hy).2.2 x hxp a (by simp)
    have h2:x∈a :: xs:=hp.symm.subset (by simp [hxp])
    have h3:a.lo≤x.lo:=by
     rcases List.mem_cons.1 h2 with rfl | h2
     ·exact Int.le_refl _
     ·exact(List.pairwise_cons.1 hx).1 x h2
    exact⟨by omega,hf x h2⟩
   rw[A5R (hf a (by simp)) pre rest out hpre]
   simp only[wH]
   have hp':xs.Perm (pre++rest):=(List.perm_cons a).1 (hp.trans (List.perm_middle))
   refine AHR xs (pre++rest) _ hp' (List.pairwise_cons.1 hx).2 ?_ (fun x h=>hf x (by simp [h]))
   have:=List.pairwise_append.1 hy
   rw[List.pairwise_append]
   exact⟨this.1,(List.pairwise_cons.1 this.2.1).2,fun x h1 y h2=>this.2.2 x h1 y (by simp [h2])⟩
theorem ATF {xs ys:List Rng}(hp:ys.Perm (xs.filter full))(hs:ys.Pairwise (fun a b=>a.lo≤b.lo)):AAB ys=normal xs:=by
 unfold normal AAB
 refine AHR _ _ _ (hp.trans (List.mergeSort_perm _ _).symm) hs ?_ (fun x hx=>by have:=hp.subset hx; simp at this; exact this.2)
 have:=List.pairwise_mergeSort (le:=AUL) (fun a b c h1 h2=>by simp [AUL] at *; omega) (fun a b=>by simp [AUL]; omega) (xs.filter full)
 exact this.imp (by simp [AUL])
end Go.Proofs.YtfpagfhhhlljjaaGreatDoor.Bins
set_option linter.unusedSimpArgs false
set_option maxRecDepth 8000
namespace Go.Proofs.YtfpagfhhhlljjaaGreatDoor.Bins
open Sm
open Bool renaming not_false→jC
open List renaming length_map→jH,map_cons→jD,map_nil→jE,nil_append→qE,findIdx?_eq_some_iff_getElem→qZ,all_eq_true→zI,take_succ_eq_append_getElem→zN,take_of_length_le→jW,findIdx?_eq_none_iff→wC,append_nil→jF,getElem?_drop→qX,getElem?_eq_getElem→jS,length→yB,replicate→jZ,length_nil→qM,drop_zero→zU
open Nat renaming le_of_ble_eq_true→jI,reduceEqDiff→jB,zero_add→jG,add_zero→jK,le_refl→jL,reduceAdd→jM
open Option renaming getD_some→jA,getD_none→jT
theorem row_map {α:Type}{f:α→List AV}{xs:List α}{k:Nat}(h:k < xs.length):(xs.map f)[k]? = some (f xs[k]):=by simp [h]
theorem AKX {row cs:List AV}(h:row.length=cs.length):splice row 0 cs=cs:=by simp [splice,h]
theorem AGR (G:Nat→AV)(xs:List Rng)(b:Nat)(fid:FuncId)(caps:List AV)(p:Rng→Bool)(h:Hp)(hl:xs.length≤1099511627776)(hb:h[b]? = some (.live 2 (xs.map encR)))
  (hf : ∀ r,PCall (En G) fid (.agg (encR r) :: caps) h (.bool (p r))) :
  PCall (En G) 180 [.own b 0 xs.length,.fn (.func fid) [] caps] h (.int .i64 (match xs.findIdx? p with | some i=>(i:Int) | none => -1)):=by
 refine acN Tryz.func180 rfl ?_
 show awp _ _ _ _ _ (EM _ [.tmp 4] _)
 simp -implicitDefEqProofs only[vQ,BD,↓reduceIte,jB,enP,PN,jH]
 refine DL (fun n F H => ∃ k,n+k=xs.length∧F 0 = .own b 0 xs.length∧F 1 = .fn (.func fid) [] caps∧F 7 = .int .i64 xs.length∧F 8 = .int .i64 (k:Nat)∧H=h∧(xs.take k).all (fun r => !p r)=true) xs.length ⟨0,by simp,rfl,rfl,rfl,rfl,rfl,rfl⟩ ?_
 rintro n F H ⟨k,hk,f0,f1,f7,f8,rfl,hin⟩
 simp -implicitDefEqProofs only[vQ,BD,↓reduceIte,enP,f0,f1,f7,f8,jH]
 refine CU (fun hc => ?_) (fun hc => ?_)
 ·have hc':k < xs.length:=by simpa using hc
  have e1:D8 Tryz.prog H 88 (.ptr b k 0)=some (.agg (encR xs[k])):=by
   rw[IJ ANQ UJ hb (row_map hc') (by simp [encR])]; rfl
  simp -implicitDefEqProofs only[vQ,BD,qE,List.cons_append,↓reduceIte,jB,enP,XX,f0,f1,f7,f8,JR hb hc',e1]
  refine(hf _).use ?_
  simp -implicitDefEqProofs only[vQ,↓reduceIte]
  refine CU (fun hb => ?_) (fun hb => ?_)
  ·simp -implicitDefEqProofs only[vQ,BD,↓reduceIte,jB]
   refine⟨?_,trivial⟩
   rw[qZ.2 ⟨hc',hb,fun j hj=>by
    rw[zI] at hin
    have:=hin xs[j] (by rw[List.mem_take_iff_getElem]; exact⟨j,by omega,rfl⟩)
    simpa using this⟩]
  ·simp -implicitDefEqProofs only[vQ,BD,↓reduceIte,jB,enP,f8,wrap_succ (show k < 9223372036854775807 by omega)]
   refine⟨n - 1,by omega,k+1,by omega,f0,f1,f7,rfl,trivial,?_⟩
   rw[zN hc',List.all_append,hin]
   simp only[List.all_cons,List.all_nil,hb]; rfl
 ·have hc' : ¬ k < xs.length:=by simpa using hc
  simp -implicitDefEqProofs only[vQ,BD,↓reduceIte]
  refine⟨?_,trivial⟩
  rw[jW (by omega)] at hin
  rw[wC.2 (by simpa using hin)]
theorem AM0 (G:Nat→AV)(r:Rng)(h:Hp):PCall (En G) 145 [.agg (encR r)] h (.bool (!full r)):=by
 refine ACalls.pure0 rfl ?_
 refine acN Tryz.func145 rfl ?_
 show awp _ _ _ _ _ (EM _ [.tmp 2] _)
 simp -implicitDefEqProofs only[vQ,BD,↓reduceIte,jB,enP,UD,SI,bxR,DW ag3,TR,SK]
 refine⟨?_,_,rfl⟩
 congr 1
 unfold full
 rw[Bool.eq_iff_iff]; simp
theorem APJ (G:Nat→AV)(xs:List Rng)(b:Nat)(fid:FuncId)(p:Rng→Bool)(h0 h:Hp)(hl:xs.length≤1099511627776)(he:ext h0 h)(hb0:h0.length≤b)(hb:h[b]? = some (.live 2 (xs.map encR)))
  (hf : ∀ r H,PCall (En G) fid [.agg (encR r)] H (.bool (p r))) :
  ACalls (En G) 143 [.own b 0 xs.length,.fn (.func fid) [] []] h fun v H=>v = .own b 0 (xs.filter fun r => !p r).length∧ext h0 H∧∃ tail,H[b]? = some (.live 2 ((xs.filter fun r => !p r).map encR++tail)):=by
 refine acN Tryz.func143 rfl ?_
 show awp _ _ _ _ _ (EM _ [.tmp 4] _)
 simp -implicitDefEqProofs only[vQ,BD,↓reduceIte,jB,enP]
 refine(AGR G xs b fid [] p h hl hb (fun r=>hf r h)).use ?_
 simp -implicitDefEqProofs only[vQ,BD,↓reduceIte,enP]
 cases hi:xs.findIdx? p with
 | none =>
   simp -implicitDefEqProofs only[]
   refine CU (fun hc => ?_) (fun hc => ?_)
   ·simp -implicitDefEqProofs only[vQ,BD,↓reduceIte,jB]
    have:xs.filter (fun r => !p r)=xs:=by
     rw[wC] at hi
     rw[List.filter_eq_self]; intro x hx; simp [hi x hx]
    rw[this]
    exact⟨rfl,he,[],by simpa using hb⟩
   ·simp at hc
 | some i0 =>
   simp -implicitDefEqProofs only[]
   obtain⟨hi1,hi2,hi3⟩:=qZ.1 hi
   refine CU (fun hc => ?_) (fun hc => ?_)
   ·simp at hc
   simp -implicitDefEqProofs only[vQ,BD,↓reduceIte,jB,enP,wrap_succ (show i0 < 9223372036854775807 by omega)]
   refine DL (fun n F H => ∃ i j zs,n+j=xs.length∧i < j∧F 0 = .own b 0 xs.length∧F 1 = .fn (.func fid) [] []∧F 5 = .int .i64 (i:Nat)∧F 6 = .int .i64 (j:Nat)∧ext h0 H∧H[b]? = some (.live 2 (zs.map encR))∧zs.length=xs.length∧zs.take i=(xs.take j).filter (fun r => !p r)∧zs.drop j=xs.drop j) (xs.length - (i0+1)) ⟨i0,i0+1,xs,by omega,by omega,by simp -implicitDefEqProofs only[vQ,↓reduceIte,jB],by simp -implicitDefEqProofs only[vQ,↓reduceIte,jB],by simp -implicitDefEqProofs only[AA,↓reduceIte,jB],by simp -implicitDefEqProofs only[AA,↓reduceIte],he,hb,rfl,?_,rfl⟩ ?_
   ·rw[zN hi1,List.filter_append]
    simp [hi2]
    refine(List.filter_eq_self.2 ?_).symm
    intro x hx
    rw[List.mem_take_iff_getElem] at hx
    obtain⟨j,hj,rfl⟩:=hx
    have:=hi3 j (by omega)
    simpa using this
   rintro n F H ⟨i,j,zs,hn,hij,f0,f1,f5,f6,hex,hz,hzl,hzt,hzd⟩
   simp -implicitDefEqProofs only[vQ,BD,↓reduceIte,jB,enP,PN,f0,f6]
   refine CU (fun hd => ?_) (fun hd => ?_)
   ·have hd':j < xs.length:=by simpa using hd
    have hdz:j < zs.length:=by omega
    have e0:zs[j]=xs[j]:=by
     have h1:(zs.drop j)[0]? = (xs.drop j)[0]? := by rw[hzd]
     rw[qX,qX,jK,jS hdz,jS hd'] at h1
     exact Option.some.inj h1
    have e1:D8 Tryz.prog H 88 (.ptr b j 0)=some (.agg (encR xs[j])):=by
     rw[IJ ANQ UJ hz (row_map hdz) (by simp [encR]),e0]; rfl
    have ld:D8 Tryz.prog (H++[ABlk.live 2 [encR xs[j]]]) 88 (.ptr (yB H) 0 0)=some (.agg (encR xs[j])):=UT ANQ UJ (by simp [encR])
    simp -implicitDefEqProofs only[vQ,BD,↓reduceIte,jB,enP,XX,jT,f0,f1,f6,JR hz hd',e1,AYY,AVR _ _ [.int .i64 0,.int .i64 0] rfl,ld]
    refine(hf _ _).use ?_
    simp -implicitDefEqProofs only[vQ,BD,↓reduceIte]
    have htk:(xs.take (j+1)).filter (fun r => !p r)=(xs.take j).filter (fun r => !p r)++(if p xs[j] then [] else [xs[j]]):=by
     rw[zN hd',List.filter_append]
     cases hp:p xs[j] <;> simp [hp]
    have hz2:(H++[ABlk.live 2 [encR xs[j]]])[b]? = some (.live 2 (zs.map encR)):=CX hz
    have hdrop:zs.drop (j+1)=xs.drop (j+1):=by
     have:=congrArg (List.drop 1) hzd
     simpa [Nat.add_comm] using this
    refine CU (fun hp => ?_) (fun hp => ?_)
    ·have hp':p xs[j]=false:=by simpa using hp
     have hiz:i < zs.length:=by omega
     have hix:i < xs.length:=by omega
     have st:FP Tryz.prog (H++[ABlk.live 2 [encR xs[j]]]) 88 (.ptr b i 0) (.agg (encR xs[j]))=some ((H++[ABlk.live 2 [encR xs[j]]]).set b (.live 2 ((zs.set i xs[j]).map encR))):=by
      rw[JQ (cs:=encR xs[j]) rfl UJ hz2 (row_map hiz) (by simp [encR]),AKX (by simp [encR]),List.map_set]
     simp -implicitDefEqProofs only[vQ,BD,↓reduceIte,jB,enP,XX,jT,f0,f5,ld,JR hz2 hix,st,wrap_succ (show i < 9223372036854775807 by omega),f6,wrap_succ (show j < 9223372036854775807 by omega)]
     refine⟨n - 1,by omega,i+1,j+1,zs.set i xs[j],by omega,by omega,trivial,f1,rfl,rfl,(hex.app _).set hb0 _,EG hz2,by simpa using hzl,?_,?_⟩
     ·rw[htk,hp',← hzt,zN (by simpa using hiz),List.take_set,List.set_eq_of_length_le (by simp; omega)]
      simp
     ·rw[List.drop_set_of_lt (by omega)]; exact hdrop
    ·have hp':p xs[j]=true:=by simpa using hp
     simp -implicitDefEqProofs only[vQ,BD,↓reduceIte,jB,enP,f6,wrap_succ (show j < 9223372036854775807 by omega)]
     refine⟨n - 1,by omega,i,j+1,zs,by omega,by omega,f0,f1,f5,rfl,hex.app _,hz2,hzl,?_,hdrop⟩
     rw[htk,hp',hzt]; simp
   ·have hd' : ¬ j < xs.length:=by simpa using hd
    have hjl:j=xs.length:=by omega
    have hfl:(xs.filter fun r => !p r)=zs.take i:=by
     rw[hzt,jW (by omega)]
    have hil:i≤zs.length:=by omega
    have hlen:(xs.filter fun r => !p r).length=i:=by rw[hfl]; simp; omega
    have hs1:KL Tryz.prog H 53 (.own b 0 xs.length) (some (.int .i64 (i:Int))) none none=some (.own b i (xs.length - i)):=by
     have:=ALU AGJ UJ (kk := .i64) (off:=0) (len:=xs.length) (l:=i) hz (by omega)
     rw[jG] at this; exact this
    have hcl:AB7 Tryz.prog H 53 (.own b i (xs.length - i))=some (JA,H.set b (.live 2 (Sm.rowsSet (zs.map encR) i (jZ (xs.length - i) [.int .i64 0,.int .i64 0])))):=by
     have hz0:NE Tryz.prog 88=some [.int .i64 0,.int .i64 0]:=by kernel_rfl
     simp only[AB7,AGJ,hz0,hz]
     rw[if_pos]
     refine⟨rfl,?_⟩
     simp; omega
    have hs2:KL Tryz.prog (H.set b (.live 2 (Sm.rowsSet (zs.map encR) i (jZ (xs.length - i) [.int .i64 0,.int .i64 0])))) 53 (.own b 0 xs.length) none (some (.int .i64 (i:Int))) none=some (.own b 0 i):=A30 AGJ UJ (EG hz) (by omega)
    simp -implicitDefEqProofs only[vQ,Option.map_some,Option.map_none,BD,TE,AZH,↓reduceIte,jB,enP,jT,f0,f5,hs1,hcl,hs2]
    refine⟨by rw[hlen],hex.set hb0 _,?_⟩
    rw[EG hz,hfl]
    refine⟨jZ (xs.length - i) [.int .i64 0,.int .i64 0]++(zs.map encR).drop (i+(xs.length - i)),?_⟩
    simp [Sm.rowsSet,List.map_take]
theorem A1L (G:Nat→AV)(xs:List Rng)(m:SM)(h:Hp)(hl:xs.length≤16777216) :
  ACalls (En G) 144 [.sl m 2 (xs.map encR)] h (AJ1 2 (xs.map encR) h):=by
 refine ACalls.of_rep (cok _ _ (by kernel_rfl)) fun⟨g,cargs,ha⟩ => ?_
 refine acN Tryz.func144 rfl ?_
 show awp _ _ _ _ _ (EM _ [.tmp 2] _)
 simp -implicitDefEqProofs only[vQ,BD,↓reduceIte,jB,enP,A5Y]
 refine CU (fun hc => ?_) (fun hc => ?_)
 ·have hm:m = .nil:=by simpa using hc
  subst hm
  simp -implicitDefEqProofs only[vQ,BD,↓reduceIte,decide_true]
  exact .inl ⟨AEL ha (i:=0) rfl,⟨_,rfl⟩,rfl⟩
 ·simp -implicitDefEqProofs only[vQ,BD,↓reduceIte,jB,enP,A4U]
  rcases Classical.em (xs = []) with hx | hx
  ·subst hx
   simp -implicitDefEqProofs only[vQ,BD,↓reduceIte,ANK AGJ UJ (.inr rfl)]
   exact .inr (.inl ⟨rfl,rfl,rfl⟩)
  ·have hr:room (([]:List (List AV)).length+(xs.map encR).length) 16:=JB (by simpa using hl) (by omega)
   have hne:xs.map encR≠[]:=by simpa using hx
   simp -implicitDefEqProofs only[vQ,BD,qE,↓reduceIte,U5 AGJ UJ AZD A1P (JF h m 2 (xs.map encR)) hne hr]
   exact .inr (.inr ⟨by simpa using hx,by simp,by simp⟩)
theorem AEY (G:Nat→AV)(m:SM)(k:Nat)(fv:AV)(h:Hp):PCall (En G) 180 [.sl m k [],fv] h (.int .i64 (-1)):=by
 refine acN Tryz.func180 rfl ?_
 show awp _ _ _ _ _ (EM _ [.tmp 4] _)
 simp -implicitDefEqProofs only[vQ,BD,↓reduceIte,jB,enP,PN,qM]
 refine DL (fun n F H=>F 7 = .int .i64 ((0:Nat):Int)∧F 8 = .int .i64 0∧H=h) 0 ⟨rfl,rfl,rfl⟩ ?_
 rintro n F H ⟨f7,f8,rfl⟩
 simp -implicitDefEqProofs only[vQ,BD,↓reduceIte,enP,f7,f8]
 refine CU (fun hc => ?_) (fun hc => ?_)
 ·simp at hc
 ·simp -implicitDefEqProofs only[vQ,BD,↓reduceIte]
  exact⟨trivial,trivial⟩
theorem ACP (G:Nat→AV)(m:SM)(k:Nat)(fv:AV)(h:Hp):PCall (En G) 143 [.sl m k [],fv] h (.sl m k []):=by
 refine acN Tryz.func143 rfl ?_
 show awp _ _ _ _ _ (EM _ [.tmp 4] _)
 simp -implicitDefEqProofs only[vQ,BD,↓reduceIte,jB,enP]
 refine(AEY G m k fv h).use ?_
 simp -implicitDefEqProofs only[vQ,BD,↓reduceIte,enP]
 refine CU (fun hc => ?_) (fun hc => ?_)
 ·simp -implicitDefEqProofs only[vQ,BD,↓reduceIte,jB]
  exact⟨trivial,trivial⟩
 ·simp at hc
structure SortOk (G:Nat→AV):Prop where
 own : ∀ (xs:List Rng) (b:Nat) (tail:List (List AV)) (h0 h:Hp),xs.length≤16777216→ext h0 h→h0.length≤b→h[b]? = some (.live 2 (xs.map encR++tail)) →
  ACalls (En G) 146 [.own b 0 xs.length,.fn (.func 147) [] []] h fun _ H=>ext h0 H∧∃ ys:List Rng,ys.Perm xs∧ys.Pairwise (fun a b=>a.lo≤b.lo)∧H[b]? = some (.live 2 (ys.map encR++tail))
 none : ∀ (m:SM) (k:Nat) (h:Hp),PCall (En G) 146 [.sl m k [],.fn (.func 147) [] []] h (.tup [])
def nm (ys:List Rng):SM:=if ys = [] then .nil else .any
def A31 (h:Hp)(out:List Rng)(b:Nat)(v:AV)(H:Hp):Prop :=
 (out = []∧v = .sl .nil 0 [])∨(out≠[]∧∃ o,h.length≤o∧o≠b∧v = .own o 0 out.length∧H[o]? = some (.live 2 (out.map encR)))
theorem AYI (h:Hp)(r:Rng):FM Tryz.prog false h 53 1 [(0,.agg (encR r))]=some (.sl .full 2 [encR r],h):=by kernel_rfl
def srcR (h:Hp)(ys:List Rng)(b:Nat)(v:AV)(H:Hp):Prop :=
 (ys = []∧∃ m k,v = .sl m k [])∨(h.length≤b∧v = .own b 0 ys.length∧∃ tail,H[b]? = some (.live 2 (ys.map encR++tail)))
theorem AW5 (out:List Rng)(r:Rng):(join out r).length≤out.length+1:=by
 unfold join
 split
 ·split
  ·simp
  ·simp
 ·simp
theorem ABL : ∀ (xs out:List Rng),(xs.foldl join out).length≤out.length+xs.length
 | [],out=>by simp
 | x :: xs,out=>by
   have h1:=ABL xs (join out x)
   have h2:=AW5 out x
   simp only[List.foldl_cons,List.length_cons]
   omega
theorem srcR.app {h:Hp}{ys:List Rng}{b:Nat}{v:AV}{H:Hp}(hs:srcR h ys b v H)(x:ABlk):srcR h ys b v (H++[x]):=by
 rcases hs with h1 | ⟨h1,h2,tail,h3⟩
 ·exact .inl h1
 ·exact .inr ⟨h1,h2,tail,CX h3⟩
theorem srcR.set {h:Hp}{ys:List Rng}{b o:Nat}{v:AV}{H:Hp}(hs:srcR h ys b v H)(x:ABlk)(ho:o≠b):srcR h ys b v (H.set o x):=by
 rcases hs with h1 | ⟨h1,h2,tail,h3⟩
 ·exact .inl h1
 ·exact .inr ⟨h1,h2,tail,CV h3 ho.symm⟩
theorem AI2 (G:Nat→AV)(hS:SortOk G)(xs:List Rng)(m:SM)(h:Hp)(hl:xs.length≤8388608) :
  ACalls (En G) 101 [.sl m 2 (xs.map encR)] h fun v H=>ext h H∧∃ b,A31 h (normal xs) b v H:=by
 refine acN Tryz.func101 rfl ?_
 show awp _ _ _ _ _ (EM _ [.tmp 2] _)
 simp -implicitDefEqProofs only[vQ,BD,↓reduceIte,jB,enP]
 refine(A1L G xs m h (by omega)).mono fun vv H' hcl => ?_
 have hfl:(xs.filter full).length≤xs.length:=List.length_filter_le _ _
 refine AG5 (fun F H=>ext h H∧((xs.filter full = []∧∃ m k,F 3 = .sl m k [])∨∃ b,h.length≤b∧F 3 = .own b 0 (xs.filter full).length∧∃ tail,H[b]? = some (.live 2 ((xs.filter full).map encR++tail)))) ?_ ?_
 ·rcases hcl with⟨hx,⟨k0,rfl⟩,rfl⟩ | ⟨hx,rfl,rfl⟩ | ⟨hx,rfl,rfl⟩
  ·have hx':xs = []:=by simpa using hx
   simp -implicitDefEqProofs only[vQ,BD,↓reduceIte]
   refine(ACP G _ _ _ _).use ?_
   simp -implicitDefEqProofs only[vQ,BD,↓reduceIte]
   exact⟨ext.rfl' _,.inl ⟨by rw[hx']; rfl,_,_,rfl⟩⟩
  ·have hx':xs = []:=by simpa using hx
   simp -implicitDefEqProofs only[vQ,BD,↓reduceIte]
   refine(ACP G _ _ _ _).use ?_
   simp -implicitDefEqProofs only[vQ,BD,↓reduceIte]
   exact⟨ext.rfl' _,.inl ⟨by rw[hx']; rfl,_,_,rfl⟩⟩
  ·simp -implicitDefEqProofs only[vQ,BD,↓reduceIte,jH]
   refine(APJ G xs h.length 145 (fun r => !full r) h (h++[.live 2 (xs.map encR)]) (by omega) ⟨_,rfl⟩ (jL _) (CZ _ _) (fun r H=>AM0 G r H)).mono ?_
   rintro v H ⟨rfl,hex,tail,ht⟩
   simp -implicitDefEqProofs only[vQ,BD,↓reduceIte]
   have e:(xs.filter fun r => !!full r)=xs.filter full:=by simp
   rw[e] at ht ⊢
   exact⟨hex,.inr ⟨h.length,jL _,rfl,tail,ht⟩⟩
 rintro F H ⟨hex,hcase⟩
 rw[BA,BC]
 refine ADK (fun F H=>ext h H∧∃ ys:List Rng,ys.Perm (xs.filter full)∧ys.Pairwise (fun a b=>a.lo≤b.lo)∧∃ b,srcR h ys b (F 3) H) (fun _ _=>False) ?_ ?_ (fun _ _ hh=>hh.elim)
 ·rcases hcase with⟨hz,m0,k0,f3⟩ | ⟨b,hb,f3,tail,ht⟩
  ·simp -implicitDefEqProofs only[vQ,BD,↓reduceIte,f3]
   refine(hS.none m0 k0 H).use ?_
   simp -implicitDefEqProofs only[vQ,QI,↓reduceIte,jB]
   exact⟨hex,[],by rw[hz],.nil,0,.inl ⟨rfl,m0,k0,f3⟩⟩
  ·simp -implicitDefEqProofs only[vQ,BD,↓reduceIte,f3]
   refine(hS.own (xs.filter full) b tail h H (by omega) hex hb ht).mono ?_
   rintro v H' ⟨hex',ys,hp,hs,hy⟩
   simp -implicitDefEqProofs only[vQ,QI,↓reduceIte,jB]
   refine⟨hex',ys,hp,hs,b,.inr ⟨hb,?_,tail,hy⟩⟩
   rw[hp.length_eq]; exact f3
 rintro F H ⟨hex,ys,hp,hs,b,hsrc⟩
 have hyl:ys.length≤8388608:=by rw[hp.length_eq]; omega
 have hN:AAB ys=normal xs:=ATF hp hs
 generalize hsv:F 3=sv at hsrc
 have hlen:L9 Tryz.prog 53 sv=some (.int .i64 ys.length):=by
  rcases hsrc with⟨rfl,m0,k0,rfl⟩ | ⟨_,rfl,_⟩
  ·exact PN.1 _ _ _
  ·exact PN.2 _ _ _
 simp -implicitDefEqProofs only[vQ,BD,↓reduceIte,jB,enP,hsv,hlen]
 refine DL (fun n F H => ∃ k,n+k=ys.length∧F 13=sv∧F 14 = .int .i64 ys.length∧F 15 = .int .i64 (k:Nat)∧ext h H∧srcR h ys b sv H∧A31 h ((ys.take k).foldl join []) b (F 4) H) ys.length ⟨0,by simp,by simp -implicitDefEqProofs only[AA,↓reduceIte,jB],by simp -implicitDefEqProofs only[AA,↓reduceIte,jB],by simp -implicitDefEqProofs only[AA,↓reduceIte]; rfl,hex,hsrc,.inl ⟨rfl,by simp -implicitDefEqProofs only[AA,↓reduceIte,jB]⟩⟩ ?_
 clear hex hsrc hsv
 rintro n F H ⟨k,hk,f13,f14,f15,hex,hsrc,hout⟩
 simp -implicitDefEqProofs only[vQ,BD,↓reduceIte,enP,f14,f15]
 refine CU (fun hc => ?_) (fun hc => ?_)
 ·have hc':k < ys.length:=by simpa using hc
  have htk:(ys.take (k+1)).foldl join []=join ((ys.take k).foldl join []) ys[k]:=by
   rw[zN hc',List.foldl_append]; rfl
  have hol0:((ys.take k).foldl join []).length≤8388608:=by
   have:=ABL (ys.take k) []
   simp at this; omega
  generalize (ys.take k).foldl join []=out at hout htk hol0
  have hsrc':=hsrc
  rcases hsrc with⟨rfl,_⟩ | ⟨hb,rfl,tail,ht⟩
  ·simp at hc'
  have e1:D8 Tryz.prog H 88 (.ptr b k 0)=some (.agg (encR ys[k])):=by
   rw[IJ ANQ UJ ht (row:=encR ys[k]) (by rw[List.getElem?_append_left (by simpa using hc')]; exact row_map hc') (by simp [encR])]; rfl
  have ht2:(H++[ABlk.live 2 [encR ys[k]]])[b]? = some (.live 2 (ys.map encR++tail)):=CX ht
  have ld:D8 Tryz.prog (H++[ABlk.live 2 [encR ys[k]]]) 88 (.ptr (yB H) 0 0)=some (.agg (encR ys[k])):=UT ANQ UJ (by simp [encR])
  rcases hout with⟨rfl,f4⟩ | ⟨hne,o,ho1,ho2,f4,ho⟩
  ·have dneg:decide ((IntKind.i64.wrap (((0:Nat):Int) - 1))≥0)=false:=by rw[wrap_i64 (by omega) (by omega)]; simp
   simp -implicitDefEqProofs only[vQ,BD,↓reduceIte,jB,enP,XX,PN,jT,f13,f15,JR ht hc',e1,AYY,AVR _ _ [.int .i64 0,.int .i64 0] rfl,f4,qM]
   refine EY (by kernel_rfl) ?_
   have h1:([encR ys[k]]:List (List AV))≠[]:=by simp
   simp -implicitDefEqProofs only[vQ,AA3,A2C,CP,BD,EW,↓reduceIte,jB,jM,enP,dneg,ld,f4,AYI,QE AGJ UJ AZD A1P (JF (H++[ABlk.live 2 [encR ys[k]]]) .full 2 [encR ys[k]]) h1 (JB (by simp) (by omega)),f15,wrap_succ (show k < 9223372036854775807 by omega)]
   refine⟨n - 1,by omega,k+1,by omega,f13,f14,rfl,(hex.app _).app _,(hsrc'.app _).app _,?_⟩
   rw[htk]
   have hbl:=CJ ht
   exact .inr ⟨by simp [join],_,by simp; have:=hex.le; omega,by simp; omega,rfl,by simp [join]⟩
  ·obtain⟨init,t,rfl⟩ : ∃ init t,out=init++[t]:=⟨out.dropLast,out.getLast hne,(List.dropLast_concat_getLast hne).symm⟩
   have hol:=CJ ho
   have hbl:=CJ ht
   have hlast:(IntKind.i64.wrap (((init++[t]).length:Int) - 1))=((init.length:Nat):Int):=by
    rw[wrap_i64 (by omega) (by omega)]; simp
   have dpos:decide (((init.length:Nat):Int)≥0)=true:=by simp
   have ho3:(H++[ABlk.live 2 [encR ys[k]]])[o]? = some (.live 2 ((init++[t]).map encR)):=CX ho
   have hil:init.length < (init++[t]).length:=by simp
   have erow:((init++[t]).map encR)[init.length]? = some (encR t):=by simp
   have lhi:D8 Tryz.prog (H++[ABlk.live 2 [encR ys[k]]]) 3 (.ptr o init.length 1)=some (.int .i64 t.hi):=by rw[DY ag3 ho3 erow]; rfl
   simp -implicitDefEqProofs only[vQ,BD,↓reduceIte,jB,enP,XX,PN,jT,f13,f15,JR ht hc',e1,AYY,AVR _ _ [.int .i64 0,.int .i64 0] rfl,f4,hlast]
   refine EY (by kernel_rfl) ?_
   simp -implicitDefEqProofs only[vQ,QN,CP,↓reduceIte,jB,jM,enP,XX,UD,SI,dpos,DW ag3,TR,SK,f4,JR ho3 hil,lhi]
   refine A4Z (fun F H'=>F 44 = .bool (glue t ys[k])∧F 13 = .own b 0 ys.length∧F 14 = .int .i64 ys.length∧F 15 = .int .i64 (k:Nat)∧F 4 = .own o 0 (init++[t]).length∧F 6 = .ptr H.length 0 0∧F 7 = .int .i64 (init.length:Nat)∧H'=H++[ABlk.live 2 [encR ys[k]]]) ?_ ?_
   ·refine AIM (fun ha => ?_) (fun ha => ?_)
    ·simp -implicitDefEqProofs only[vQ,QN,AA4,CP,EW,↓reduceIte,jB,jM,ha,f4,f13,f14,f15]
     exact⟨by unfold glue; rw[ha]; rfl,trivial,trivial,trivial,trivial,trivial,trivial,trivial⟩
    ·simp -implicitDefEqProofs only[vQ,QN,SY,CP,↓reduceIte,jB,jM,enP,XX,UD,SI,ha,DW ag3,TR,SK,f4,f13,f14,f15,JR ho3 hil,lhi]
     exact⟨by unfold glue; rw[ha]; rfl,trivial,trivial,trivial,trivial,trivial,trivial,trivial⟩
   clear f13 f14 f15 f4
   rintro F H' ⟨f44,f13,f14,f15,f4,f6,f7,rfl⟩
   simp -implicitDefEqProofs only[vQ,f44]
   refine CU (fun hg => ?_) (fun hg => ?_)
   ·have st : ∀ v:Int,FP Tryz.prog (H++[ABlk.live 2 [encR ys[k]]]) 3 (.ptr o init.length 1) (.int .i64 v)=some ((H++[ABlk.live 2 [encR ys[k]]]).set o (.live 2 ((init++[Rng.mk t.lo v]).map encR))):=by
     intro v
     have h2:=JQ (P:=Tryz.prog) (t:=3) (j:=1) (v := .int .i64 v) (cs := [.int .i64 v]) rfl sz3 ho3 erow (by simp [encR])
     have h3:((init++[t]).map encR).set init.length (splice (encR t) 1 [.int .i64 v])=(init++[Rng.mk t.lo v]).map encR:=by simp [encR,splice]
     rw[h2,h3]
    simp -implicitDefEqProofs only[BC]
    refine EY (by kernel_rfl) ?_
    simp -implicitDefEqProofs only[vQ,BD,AQN,AI7,↓reduceIte,jB,jM,enP,XX,SI,jT,f4,f6,f7,JR ho3 hil,lhi,DW ag3,SK,st,f15,wrap_succ (show k < 9223372036854775807 by omega)]
    refine⟨n - 1,by omega,k+1,by omega,f13,f14,rfl,(hex.app _).set ho1 _,(hsrc'.app _).set _ ho2,?_⟩
    rw[htk]
    have hj:join (init++[t]) ys[k]=init++[⟨t.lo,max t.hi ys[k].hi⟩]:=by simp [join,hg]
    rw[hj]
    exact .inr ⟨by simp,o,ho1,ho2,by simp,EG ho3⟩
   ·have h1:([encR ys[k]]:List (List AV))≠[]:=by simp
    have hc1:KE (H++[ABlk.live 2 [encR ys[k]]]) (.own o 0 (init++[t]).length)=some (2,(init++[t]).map encR):=by
     rw[MH ho3 (by simp),zU,jW (by simp)]
    simp -implicitDefEqProofs only[vQ,BD,↓reduceIte,jB,enP,ld,f4,f6,AYI,Q8 AGJ UJ AZD A1P hc1 (JF (H++[ABlk.live 2 [encR ys[k]]]) .full 2 [encR ys[k]]) h1 (JB (by simp at hol0 ⊢; omega) (by omega)),f15,wrap_succ (show k < 9223372036854775807 by omega)]
    refine⟨n - 1,by omega,k+1,by omega,f13,f14,rfl,((hex.app _).set ho1 _).app _,((hsrc'.app _).set _ ho2).app _,?_⟩
    rw[htk]
    have hj:join (init++[t]) ys[k]=(init++[t])++[ys[k]]:=by simp [join,hg]
    rw[hj]
    exact .inr ⟨by simp,(H++[ABlk.live 2 [encR ys[k]]]).length,by simp; have:=hex.le; omega,by simp; omega,by simp,by simp⟩
 ·have hc' : ¬ k < ys.length:=by simpa using hc
  have:k=ys.length:=by omega
  subst this
  rw[List.take_length] at hout
  have hN':ys.foldl join []=normal xs:=hN
  rw[hN'] at hout
  simp -implicitDefEqProofs only[vQ,BD,↓reduceIte,jB]
  exact⟨hex,b,hout⟩
theorem frz_rows (n:Nat)(h:Hp)(d:Nat)(xs:List Rng):(xs.map encR).map (·.map (IL n h (d+1)))=xs.map encR:=by
 rw[List.map_map]
 congr 1
theorem frzF_own (n:Nat)(h:Hp)(d b off len k:Nat)(xs:List (List AV))(hn : ¬ b < n)(hb:h[b]? = some (.live k xs)):IL n h (d+1) (.own b off len)=if off+len≤xs.length∧(((xs.drop off).take len).map (·.map (IL n h d))).all (·.all AV.leaf)=true then .sl .any k (((xs.drop off).take len).map (·.map (IL n h d))) else .junk:=by
 rw[IL]
 simp only[hn,if_false,hb]
theorem frz_own {n d:Nat}{h:Hp}{o:Nat}{xs:List Rng}(hn:n≤o)(ho:h[o]? = some (.live 2 (xs.map encR))):IL n h (d+2) (.own o 0 xs.length) = .sl .any 2 (xs.map encR):=by
 rw[frzF_own n h (d+1) o 0 xs.length 2 _ (by omega) ho,zU,jW (by simp),frz_rows n h d xs]
 rw[if_pos]
 refine⟨by simp,?_⟩
 rw[zI]
 intro row hr
 obtain⟨x,_,rfl⟩:=List.mem_map.1 hr
 rfl
theorem ATC {G:Nat→AV}{f:FuncId}{args:List AV}{h:Hp}{ys:List Rng}(hc:ACalls (En G) f args h fun v H=>ext h H∧∃ b,A31 h ys b v H):PCall (En G) f args h (.sl (nm ys) 2 (ys.map encR)):=by
 have h1:ACalls (En G) f args h fun v H=>v=(if ys = [] then AV.sl .nil 0 [] else .sl .any 2 (ys.map encR))∧H=h:=by
  refine ACalls.pure 2 hc ?_
  rintro v H ⟨hex,b,hout⟩
  refine⟨hex,?_⟩
  rcases hout with⟨rfl,rfl⟩ | ⟨hne,o,ho1,_,rfl,ho⟩
  ·rfl
  ·rw[if_neg hne]; exact frz_own ho1 ho
 refine h1.conv ?_
 rintro v H ⟨rfl,rfl⟩
 refine⟨_,⟨rfl,rfl⟩,?_⟩
 intro g cv hr
 unfold nm
 split at hr
 ·rename_i hz; subst hz; exact ALY hr
 ·rename_i hz; rw[if_neg hz]; exact hr
theorem ALX (G:Nat→AV)(hS:SortOk G)(xs:List Rng)(m:SM)(h:Hp)(hl:xs.length≤8388608):PCall (En G) 101 [.sl m 2 (xs.map encR)] h (.sl (nm (normal xs)) 2 ((normal xs).map encR)) :=
 ATC (AI2 G hS xs m h hl)
end Go.Proofs.YtfpagfhhhlljjaaGreatDoor.Bins
namespace Go.Proofs.YtfpagfhhhlljjaaGreatDoor.Bins
open Sm Go.Shelf Go.RowKit Go.Lib Go.Sort
open List renaming getElem?_append_left→zO,length_append→qA,length_map→jH,getElem?_append_right→wQ
open Nat renaming lt_or_ge→zM
def ASV:Go.Shelf.Ren:=⟨fun | 6=>146 | 15=>182 | 14=>181 | 28=>212 | 29=>213 | 20=>204 | 21=>205 | 22=>206 | 23=>207 | 24=>208 | 25=>209 | 26=>210 | 27=>211 | 46=>237 | 47=>238 | 48=>239 | 49=>240 | 50=>241 | 57=>253 | n=>n,fun | 22=>53 | 24=>88 | 25=>178 | 3=>3 | 39=>201 | 0=>0 | 53=>225 | 55=>227 | 4=>4 | 46=>219 | 45=>218 | 50=>62 | 5=>5 | 9=>9 | 66=>234 | 70=>154 | 76=>242 | 77=>243 | n=>n,fun | n=>n⟩
theorem AVS:Go.Proofs.SlLaysF0.n6 Tryz.prog ASV := {
 mixed:=by kernel_rfl,
 f6:=⟨Tryz.f146.name,by decide,Tryz.func146.trans (congrArg some (by kernel_rfl))⟩,
 f14:=⟨Tryz.f181.name,by decide,Tryz.func181.trans (congrArg some (by kernel_rfl))⟩,
 f15:=Tryz.func182.trans (congrArg some (by kernel_rfl)),
 f20:=⟨Tryz.f204.name,by decide,Tryz.func204.trans (congrArg some (by kernel_rfl))⟩,
 f21:=⟨Tryz.f205.name,by decide,Tryz.func205.trans (congrArg some (by kernel_rfl))⟩,
 f22:=⟨Tryz.f206.name,by decide,Tryz.func206.trans (congrArg some (by kernel_rfl))⟩,
 f23:=⟨Tryz.f207.name,by decide,Tryz.func207.trans (congrArg some (by kernel_rfl))⟩,
 f24:=⟨Tryz.f208.name,by decide,Tryz.func208.trans (congrArg some (by kernel_rfl))⟩,
 f25:=⟨Tryz.f209.name,by decide,Tryz.func209.trans (congrArg some (by kernel_rfl))⟩,
 f26:=⟨Tryz.f210.name,by decide,Tryz.func210.trans (congrArg some (by kernel_rfl))⟩,
 f27:=⟨Tryz.f211.name,by decide,Tryz.func211.trans (congrArg some (by kernel_rfl))⟩,
 f28:=Tryz.func212.trans (congrArg some (by kernel_rfl)),
 f29:=Tryz.func213.trans (congrArg some (by kernel_rfl)),
 f46:=⟨Tryz.f237.name,by decide,Tryz.func237.trans (congrArg some (by kernel_rfl))⟩,
 f47:=Tryz.func238.trans (congrArg some (by kernel_rfl)),
 f48:=Tryz.func239.trans (congrArg some (by kernel_rfl)),
 f49:=⟨Tryz.f240.name,by decide,Tryz.func240.trans (congrArg some (by kernel_rfl))⟩,
 f50:=⟨Tryz.f241.name,by decide,Tryz.func241.trans (congrArg some (by kernel_rfl))⟩,
 f57:=⟨Tryz.f253.name,by decide,Tryz.func253.trans (congrArg some (by kernel_rfl))⟩,
 t0:=Tryz.underlying0,
 a0:=Tryz.isAgg0,
 z0:=Tryz.sizeOf0,
 v0:=Tryz.zeroValue0,
 t3:=Tryz.underlying3,
 a3:=Tryz.isAgg3,
 z3:=Tryz.sizeOf3,
 v3:=Tryz.zeroValue3,
 t4:=Tryz.underlying4,
 a4:=Tryz.isAgg4,
 z4:=Tryz.sizeOf4,
 v4:=Tryz.zeroValue4,
 t5:=Tryz.underlying5,
 a5:=Tryz.isAgg5,
 z5:=Tryz.sizeOf5,
 v5:=Tryz.zeroValue5,
 t9:=Tryz.underlying9,
 a9:=Tryz.isAgg9,
 z9:=Tryz.sizeOf9,
 v9:=Tryz.zeroValue9,
 t22:=Tryz.underlying53,
 a22:=Tryz.isAgg53,
 z22:=Tryz.sizeOf53,
 v22:=Tryz.zeroValue53,
 t25:=Tryz.underlying178,
 a25:=Tryz.isAgg178,
 z25:=Tryz.sizeOf178,
 v25:=Tryz.zeroValue178,
 t39:=Tryz.underlying201,
 a39:=Tryz.isAgg201,
 z39:=Tryz.sizeOf201,
 v39:=Tryz.zeroValue201,
 t45:=Tryz.underlying218,
 a45:=Tryz.isAgg218,
 z45:=Tryz.sizeOf218,
 v45:=Tryz.zeroValue218,
 t46:=Tryz.underlying219,
 a46:=Tryz.isAgg219,
 z46:=Tryz.sizeOf219,
 v46:=Tryz.zeroValue219,
 t50:=Tryz.underlying62,
 a50:=Tryz.isAgg62,
 z50:=Tryz.sizeOf62,
 v50:=Tryz.zeroValue62,
 t53:=Tryz.underlying225,
 a53:=Tryz.isAgg225,
 z53:=Tryz.sizeOf225,
 v53:=Tryz.zeroValue225,
 t55:=Tryz.underlying227,
 a55:=Tryz.isAgg227,
 z55:=Tryz.sizeOf227,
 v55:=Tryz.zeroValue227,
 t66:=Tryz.underlying234,
 a66:=Tryz.isAgg234,
 z66:=Tryz.sizeOf234,
 v66:=Tryz.zeroValue234,
 t70:=Tryz.underlying154,
 a70:=Tryz.isAgg154,
 z70:=Tryz.sizeOf154,
 v70:=Tryz.zeroValue154,
 t76:=Tryz.underlying242,
 a76:=Tryz.isAgg242,
 z76:=Tryz.sizeOf242,
 v76:=Tryz.zeroValue242,
 t77:=Tryz.underlying243,
 a77:=Tryz.isAgg243,
 z77:=Tryz.sizeOf243,
 v77:=Tryz.zeroValue243 }
def ANB:Go.Shelf.Ren:=⟨fun | 5=>148 | 7=>183 | n=>n,fun | 22=>3 | 3=>3 | 4=>4 | n=>n,fun | n=>n⟩
theorem A1K:Go.Proofs.SlLaysC2.n5 Tryz.prog ANB := {
 mixed:=by kernel_rfl,
 f5:=⟨Tryz.f148.name,by decide,Tryz.func148.trans (congrArg some (by kernel_rfl))⟩,
 f7:=⟨Tryz.f183.name,by decide,Tryz.func183.trans (congrArg some (by kernel_rfl))⟩,
 t3:=Tryz.underlying3,
 a3:=Tryz.isAgg3,
 z3:=Tryz.sizeOf3,
 v3:=Tryz.zeroValue3,
 t4:=Tryz.underlying4,
 a4:=Tryz.isAgg4,
 z4:=Tryz.sizeOf4,
 v4:=Tryz.zeroValue4,
 t22:=Tryz.underlying3,
 a22:=Tryz.isAgg3,
 z22:=Tryz.sizeOf3,
 v22:=Tryz.zeroValue3 }
def encV (x:Rng):List Value := [.int .i64 x.lo,.int .i64 x.hi]
instance:Inhabited Rng:=⟨⟨0,0⟩⟩
set_option maxHeartbeats 1000000 in
theorem AUH (x y:Rng)(W:World):Calls Tryz.prog 147 #[.agg #[.int .i64 x.lo,.int .i64 x.hi],.agg #[.int .i64 y.lo,.int .i64 y.hi]] W fun e w'=>e = .returned (.int .i64 (Lib.compareInt x.lo y.lo))∧∃ q os',w'=grow (W.drewN q) os':=by
 have hcon:=fun W'=>AnyG.cmp_Compare_int A1K x.lo y.lo W'
 change ∀ W',Calls Tryz.prog 148 _ _ _ at hcon
 generalize Lib.compareInt x.lo y.lo=r at hcon ⊢
 go_enter Tryz.func147,Tryz.ntmps147
 go_wp2_with (go_at_call 148; refine(hcon _).mono ?_; rintro e w' ⟨rfl,rfl⟩)
 go_ret
 exact⟨rfl,0,_,by rw[alloc_eq_grow,alloc_eq_grow,grow_grow]; rfl⟩
theorem AUG (blk off size:Nat)(w:World):CmpLays Tryz.prog 147 #[] encV 2 (fun x y=>Lib.compareInt x.lo y.lo) blk off size w :=
 fun _ _ _ _ x y=>AUH x y _
theorem ltLo (x y:Rng):ltOf (fun x y:Rng=>Lib.compareInt x.lo y.lo) x y=decide (x.lo < y.lo):=by
 unfold ltOf Lib.compareInt
 by_cases h1:x.lo < y.lo
 ·simp [h1]
 ·by_cases h2:y.lo < x.lo <;> simp [h1,h2]
theorem swoLo:SWO (ltOf fun x y:Rng=>Lib.compareInt x.lo y.lo) where
 irrefl x:=by rw[ltLo]; simp
 trans x y z h1 h2:=by rw[ltLo] at *; simp at *; omega
 ntrans x y z h1 h2:=by rw[ltLo] at *; simp at *; omega
theorem encV_len (x:Rng):(encV x).length=2:=rfl
theorem AMU (x:Rng)(j:Nat)(a:AV)(h:(encR x)[j]? = some a)(g:Gh) : ∃ v,(encV x)[j]? = some v∧(encV x)[j]! = v∧Rep g a v∧∀ v',Rep g a v'→v'=v:=by
 match j,h with
 | 0,h=>simp [encR] at h; subst h; exact⟨_,rfl,rfl,.int _ _ _,fun v' hv=>hv.int_inv⟩
 | 1,h=>simp [encR] at h; subst h; exact⟨_,rfl,rfl,.int _ _ _,fun v' hv=>hv.int_inv⟩
 | n+2,h=>simp [encR] at h
theorem AKY : ∀ args w,(callFunc 147 args).run Tryz.prog w = .ok (.enter 147 args) w:=enters_of Tryz.func147 (by kernel_rfl) rfl
theorem A1B {t n:Nat}(h:t < n * 2):t / 2 < n:=by omega
theorem AZQ (G:Nat→AV)(xs:List Rng)(b:Nat)(tail:List (List AV))(h0 h:Hp)(hl:xs.length≤16777216)(he:ext h0 h)(hb0:h0.length≤b)(hb:h[b]? = some (.live 2 (xs.map encR++tail))) :
  ACalls (En G) 146 [.own b 0 xs.length,.fn (.func 147) [] []] h fun _ H=>ext h0 H∧∃ ys:List Rng,ys.Perm xs∧ys.Pairwise (fun a b=>a.lo≤b.lo)∧H[b]? = some (.live 2 (ys.map encR++tail)):=by
 refine⟨cok 146 G (by kernel_rfl),fun g w cargs S ha => ?_⟩
 obtain⟨hsz,hget⟩:=ha
 obtain⟨cv0,cv1,rfl⟩ : ∃ a b,cargs = #[a,b]:=by
  obtain⟨l⟩:=cargs
  match l,hsz with
  | [a,b],_=>exact⟨a,b,rfl⟩
 have r0:=hget 0 _ cv0 rfl rfl
 have r1:=hget 1 _ cv1 rfl rfl
 obtain⟨f1,f2,rfl,q1,q2,_⟩:=r1.fn_inv
 obtain rfl:f1 = #[]:=Array.eq_empty_of_size_eq_zero (by simpa using q1)
 obtain rfl:f2 = #[]:=Array.eq_empty_of_size_eq_zero (by simpa using q2)
 have none_case : ∀ (p:Option Addr) (cap:Nat),xs = []→Calls Tryz.prog 146 #[.slice p 0 cap,.func (.func 147) #[] #[]] w fun e w' => ∃ v cv g' h',e = .returned cv∧(ext h0 h'∧∃ ys:List Rng,ys.Perm xs∧ys.Pairwise (fun a b=>a.lo≤b.lo)∧h'[b]? = some (.live 2 (ys.map encR++tail)))∧g.le g'∧SimH (En G) g' h' w'∧Rep g' v cv:=by
  intro p cap hx
  have hcon:=AnyF.slices_SortFunc_none AVS p cap (.func (.func 147) #[] #[]) w
  change Calls Tryz.prog 146 _ _ _ at hcon
  refine hcon.mono ?_
  rintro e w' ⟨rfl,rfl⟩
  exact⟨.tup [],_,g,h,rfl,⟨he,xs,.refl _,by rw[hx]; exact .nil,hb⟩,Gh.le.refl g,S,Rep.undef g⟩
 rcases r0.own_inv with⟨l,cap,hl0,hlc,hsp,rfl⟩ | ⟨hn,a,rfl⟩
 case inr =>
  have hx:xs = []:=List.length_eq_zero_iff.1 hn
  have:=none_case (some a) 0 hx
  exact this
 obtain⟨l',c,ety,p1,p2,p3,p4,p5,p6,p7,p8⟩:=S.live b 2 _ hb
 rw[hl0] at p1; cases p1
 obtain⟨cb,co,k,sz⟩:=l
 simp only at p2 p3 p4 p5 p6 p8 hsp
 subst p2
 simp only[Nat.zero_mul,Nat.add_zero]
 have hblk:cb < w.heap.size:=by
  have:=(Array.getElem?_eq_some_iff.1 p4).1; exact this
 -- the row's cells
 have hcell : ∀ t,t < xs.length * 2→c[co+t]? = some ((encV (xs.toArray[t / 2]!))[t % 2]!):=by
  intro t ht
  have hi:=A1B ht
  have e1:(xs.map encR++tail)[t / 2]? = some (encR xs[t / 2]):=by rw[zO (by simpa using hi)]; exact row_map hi
  have hj:t % 2 < 2:=Nat.mod_lt _ (by decide)
  have e2:(encR xs[t / 2])[t % 2]? = some ((encR xs[t / 2])[t % 2]'hj):=List.getElem?_eq_getElem _
  obtain⟨cv,s1,s2⟩:=p8 (t / 2) (t % 2) _ _ e1 e2
  obtain⟨v,_,t2,_,t4⟩:=AMU _ _ _ e2 g
  rw[show co+t / 2 * 2+t % 2=co+t by omega] at s1
  rw[s1,t4 cv s2]
  have:xs.toArray[t / 2]! = xs[t / 2]:=by simp [hi]
  rw[this,t2]
 have hH:HoldsK encV 2 w cb co xs.toArray:=by
  intro t ht
  simp only[size_flatK,List.size_toArray] at ht
  refine⟨?_,?_⟩
  ·rw[get_flatK _ _ _ _ (by simpa using ht)]
   simp only[World.cell?,p4]
   exact hcell t ht
  ·simp [World.frozen?,p4]
 have hcon:=AnyQ.slices_SortFunc AVS 2 Tryz.isAgg88 Tryz.sizeOf88 encV encV_len (fun x v hv=>by simp [encV] at hv; rcases hv with rfl | rfl <;> rfl) (fun x y=>Lib.compareInt x.lo y.lo) swoLo 147 #[] cb co cap xs.toArray w
  AKY (AUG cb co _ w) hH hblk (by simp; omega)
 simp only[List.size_toArray] at hcon
 change Calls Tryz.prog 146 _ _ _ at hcon
 refine hcon.mono ?_
 rintro e w' ⟨rfl,d',m,os,hp,hs,rfl⟩
 have hds:d'.size=xs.length:=by simpa using hp.1
 have hperm:d'.toList.Perm xs:=by
  have:=hp.2.2
  simpa [Array.extract_eq_self_of_le,hds] using this
 have hpw:d'.toList.Pairwise (fun a b=>a.lo≤b.lo):=by
  rw[List.pairwise_iff_getElem]
  intro i j hi hj hij
  have:=hs i j (Nat.zero_le _) hij (by simpa [hds] using hj)
  rw[ltLo] at this
  simp at hi hj
  rw[getElem!_pos d' i hi,getElem!_pos d' j hj] at this
  simpa using this
 -- the written world
 have hw1:Wrote w (putRowK encV 2 (Sort.ahead w m) cb co d') cb ety c (putCells id co (flatK encV 2 d') c) co (flatK encV 2 d').toList:=by
  refine⟨rfl,rfl,rfl,?_,?_,?_,?_⟩
  ·show(w.heap.modify cb _)[cb]? = _
   rw[Array.getElem?_modify,if_pos rfl,p4]
   rfl
  ·simp [putCells]
  ·intro j
   simp only[putCells,Array.getElem?_mapIdx,Array.length_toList]
   rcases zM j c.size with hj | hj
   ·rw[Array.getElem?_eq_getElem hj]
    simp only[Option.map_some]
    split
    ·rename_i hh
     rw[Array.getElem?_toList,Array.getElem?_eq_getElem (by omega),getElem!_pos _ _ (by omega)]
     rfl
    ·rfl
   ·rw[Array.getElem?_eq_none hj,if_neg ?_]
    ·rfl
    ·simp only[size_flatK,hds]
     have:co+xs.length * 2≤c.size:=by
      rw[p5]; simp only[qA,jH] at p6; omega
     omega
  ·intro k hk
   show(w.heap.modify cb _)[k]? = _
   rw[Array.getElem?_modify,if_neg (fun e=>hk e.symm)]
 have hrows:O3 g (putCells id co (flatK encV 2 d') c) co 2 (d'.toList.map encR++tail):=by
  refine⟨?_,?_,?_⟩
  ·have:(putCells id co (flatK encV 2 d') c).size=c.size:=hw1.size
   rw[this,p5]
   simp only[qA,jH,Array.length_toList,hds] at p6 ⊢
   exact p6
  ·intro i row hrow
   rcases zM i xs.length with hi | hi
   ·rw[zO (by simpa [hds] using hi),List.getElem?_map,Option.map_eq_some_iff] at hrow
    obtain⟨x,_,rfl⟩:=hrow
    refine⟨rfl,fun j v hv => ?_⟩
    match j,hv with
    | 0,hv=>simp [encR] at hv; subst hv; rfl
    | 1,hv=>simp [encR] at hv; subst hv; rfl
    | n+2,hv=>simp [encR] at hv
   ·rw[wQ (by simpa [hds] using hi)] at hrow
    refine p7 i row ?_
    rw[wQ (by simpa using hi)]
    simpa [hds] using hrow
  ·intro i j row v hrow hv
   rw[hw1.cells]
   rcases zM i xs.length with hi | hi
   ·have hi':i < d'.toList.length:=by simpa [hds] using hi
    rw[zO (by simpa using hi'),row_map hi'] at hrow
    cases hrow
    have hj:j < 2:=(List.getElem?_eq_some_iff.1 hv).1
    obtain⟨v',t1,t2,t3,_⟩:=AMU _ _ _ hv g
    refine⟨v',?_,t3⟩
    have hlt:i * 2+j < d'.size * 2:=by omega
    rw[if_pos (by simp only[Array.length_toList,size_flatK]; omega),show co+i * 2+j - co=i * 2+j by omega,Array.getElem?_toList,Array.getElem?_eq_getElem (by simpa using hlt)]
    rw[← getElem!_pos,get_flatK _ _ _ _ hlt,show(i * 2+j) / 2=i by omega,show(i * 2+j) % 2=j by omega]
    rw[getElem!_pos d' i (by omega)]
    rw[show d'[i]=d'.toList[i] by simp,t2]
   ·rw[if_neg (by simp only[Array.length_toList,size_flatK,hds]; omega)]
    rw[wQ (by simpa [hds] using hi)] at hrow
    refine p8 i j row v ?_ hv
    rw[wQ (by simpa using hi)]
    simpa [hds] using hrow
 have S1:=S.write hb hl0 hw1 p5 hrows
 have S2:SimH (En G) g (h.set b (.live 2 (d'.toList.map encR++tail))) (sortWorldK encV 2 w cb co m d' os):=by
  refine S1.world rfl rfl rfl fun k hk => ?_
  show((putRowK encV 2 (Sort.ahead w m) cb co d').heap++os)[k]? = _
  rcases zM k (putRowK encV 2 (Sort.ahead w m) cb co d').heap.size with hlt | hge
  ·rw[Array.getElem?_append_left hlt]
  ·exfalso
   obtain⟨u1,u2⟩:=S1.unowned_new hge
   rcases hk with⟨o,ho⟩ | hk
   ·rw[u2] at ho; cases ho
   ·exact hk u1
 exact⟨.tup [],_,g,_,rfl,⟨he.set hb0 _,d'.toList,hperm,hpw,EG hb⟩,Gh.le.refl g,S2,Rep.undef g⟩
theorem AVT (G:Nat→AV)(m:SM)(k:Nat)(h:Hp):PCall (En G) 146 [.sl m k [],.fn (.func 147) [] []] h (.tup []):=by
 refine⟨cok 146 G (by kernel_rfl),fun g w cargs S ha => ?_⟩
 obtain⟨hsz,hget⟩:=ha
 obtain⟨cv0,cv1,rfl⟩ : ∃ a b,cargs = #[a,b]:=by
  obtain⟨l⟩:=cargs
  match l,hsz with
  | [a,b],_=>exact⟨a,b,rfl⟩
 have r0:=(hget 0 _ cv0 rfl rfl).sl_inv
 have r1:=hget 1 _ cv1 rfl rfl
 obtain⟨f1,f2,rfl,q1,q2,_⟩:=r1.fn_inv
 obtain rfl:f1 = #[]:=Array.eq_empty_of_size_eq_zero (by simpa using q1)
 obtain rfl:f2 = #[]:=Array.eq_empty_of_size_eq_zero (by simpa using q2)
 have none_case : ∀ (p:Option Addr) (cap:Nat),Calls Tryz.prog 146 #[.slice p 0 cap,.func (.func 147) #[] #[]] w fun e w' => ∃ v cv g' h',e = .returned cv∧(v = .tup []∧h'=h)∧g.le g'∧SimH (En G) g' h' w'∧Rep g' v cv:=by
  intro p cap
  have hcon:=AnyF.slices_SortFunc_none AVS p cap (.func (.func 147) #[] #[]) w
  change Calls Tryz.prog 146 _ _ _ at hcon
  refine hcon.mono ?_
  rintro e w' ⟨rfl,rfl⟩
  exact⟨.tup [],_,g,h,rfl,⟨rfl,rfl⟩,Gh.le.refl g,S,Rep.undef g⟩
 generalize hx:AV.sl m k []=v at r0
 cases r0 <;> first | (cases hx; done) | skip
 ·exact none_case _ _
 ·exact none_case _ _
 ·rename_i hne _ _ _ _ _ _ _
  cases hx; exact absurd rfl hne
theorem A3R (G:Nat→AV):SortOk G:=⟨fun xs b tail h0 h hl he hb0 hb=>AZQ G xs b tail h0 h hl he hb0 hb,fun m k h=>AVT G m k h⟩
theorem AI3 (G:Nat→AV)(xs:List Rng)(m:SM)(h:Hp)(hl:xs.length≤8388608):PCall (En G) 101 [.sl m 2 (xs.map encR)] h (.sl (nm (normal xs)) 2 ((normal xs).map encR)):=ALX G (A3R G) xs m h hl
end Go.Proofs.YtfpagfhhhlljjaaGreatDoor.Bins
set_option linter.unusedSimpArgs false
set_option maxRecDepth 8000
namespace Go.Proofs.YtfpagfhhhlljjaaGreatDoor.Bins
open Sm
open Bool renaming or_eq_true→qN
open List renaming append_assoc→zH,mem_append→qI,getElem?_append_left→zO,getElem?_append_right→wQ
open Nat renaming lt_or_ge→zM
structure Sel (xs dn cur:List Rng):Prop where
 perm:(dn++cur).Perm xs
 sorted:dn.Pairwise (fun a b=>a.lo≤b.lo)
 below : ∀ d∈dn,∀ c∈cur,d.lo≤c.lo
theorem AVL {cur:List Rng}{b:Nat}(hb:b < cur.length):(cur[b] :: (cur.set b (cur[cur.length - 1]'(by omega))).take (cur.length - 1)).Perm cur:=by
 obtain⟨init,t,rfl⟩ : ∃ init t,cur=init++[t]:=⟨cur.dropLast,cur.getLast (by intro e; subst e; simp at hb),(List.dropLast_concat_getLast _).symm⟩
 have hl:(init++[t]).length - 1=init.length:=by simp
 have hlast:(init++[t])[(init++[t]).length - 1]'(by simp)=t:=by simp
 rw[hlast,hl]
 rcases zM b init.length with h | h
 ·rw[List.set_append_left _ _ h,List.take_left' (by simp),List.getElem_append_left h]
  have h1:init=init.take b++init[b] :: init.drop (b+1):=by rw[List.getElem_cons_drop,List.take_append_drop]
  have h2:init.set b t=init.take b++t :: init.drop (b+1):=by rw[List.set_eq_take_append_cons_drop,if_pos h]
  rw[h2]
  generalize init[b]=x at h1
  generalize init.take b=p at h1
  generalize init.drop (b+1)=q at h1
  subst h1
  have e1:(x :: (p++t :: q)).Perm (p++x :: t :: q):=List.perm_middle.symm
  refine e1.trans ?_
  rw[zH]
  refine List.Perm.append_left p ?_
  rw[List.cons_append]
  refine List.Perm.cons x ?_
  exact(List.perm_append_singleton t q).symm
 ·have:b=init.length:=by simp at hb; omega
  subst this
  rw[List.getElem_append_right (Nat.le_refl _)]
  simp
  exact(List.perm_append_singleton t init).symm
theorem Sel.step {xs dn cur:List Rng}(h:Sel xs dn cur){b:Nat}(hb:b < cur.length)(hmin : ∀ c∈cur,cur[b].lo≤c.lo) :
  Sel xs (dn++[cur[b]]) ((cur.set b (cur[cur.length - 1]'(by omega))).take (cur.length - 1)):=by
 have hs:=AVL hb
 generalize (cur.set b (cur[cur.length - 1]'(by omega))).take (cur.length - 1)=nx at hs
 refine⟨?_,?_,?_⟩
 ·rw[zH]
  exact(List.Perm.append_left dn hs).trans h.perm
 ·rw[List.pairwise_append]
  refine⟨h.sorted,by simp,?_⟩
  intro a ha c hc
  simp at hc; subst hc
  exact h.below a ha _ (List.getElem_mem hb)
 ·intro d hd c hc
  have hcm:c∈cur:=hs.mem_iff.1 (List.mem_cons_of_mem _ hc)
  rw[qI] at hd
  rcases hd with hd | hd
  ·exact h.below d hd c hcm
  ·simp at hd; subst hd; exact hmin c hcm
def inI (r:Rng):Prop:=(-9223372036854775808≤r.lo∧r.lo≤9223372036854775807)∧-9223372036854775808≤r.hi∧r.hi≤9223372036854775807
structure Inv (ps out:List Rng):Prop where
 f : ∀ r∈out,full r=true∧inI r
 pw:out.Pairwise (fun a b=>a.lo≤b.lo)
 gap : ∀ (i:Nat) (a b:Rng),out[i]? = some a→out[i+1]? = some b→glue a b=false
 ins : ∀ v,inside out v=inside ps v
 low : ∀ r∈out,∃ p∈ps,r.lo=p.lo
theorem OG (xs ys:List Rng)(v:Int):inside (xs++ys) v=(inside xs v || inside ys v):=by simp [inside]
theorem AO6 {t r:Rng}(ht:full t=true∧inI t)(hr:full r=true∧inI r)(hlo:t.lo≤r.lo)(hg:glue t r=true)(v:Int) :
  (decide (t.lo≤v) && decide (v≤max t.hi r.hi))=((decide (t.lo≤v) && decide (v≤t.hi)) || (decide (r.lo≤v) && decide (v≤r.hi))):=by
 obtain⟨h1,⟨h2,h3⟩,h4,h5⟩:=ht
 obtain⟨k1,⟨k2,k3⟩,k4,k5⟩:=hr
 simp only[full,decide_eq_true_eq] at h1 k1
 have hg':r.lo≤t.hi+1:=by
  simp only[glue,qN,decide_eq_true_eq] at hg
  rcases hg with hg | hg
  ·omega
  ·rcases (show -9223372036854775808 < r.lo∨r.lo≤-9223372036854775808 by omega) with h | h
   ·rw[wrap_i64 (by omega) (by omega)] at hg; omega
   ·omega
 rw[Bool.eq_iff_iff]
 simp only[Bool.and_eq_true,qN,decide_eq_true_eq]
 omega
theorem Inv.step {ps out:List Rng}(h:Inv ps out){r:Rng}(hr:full r=true∧inI r)(hlo : ∀ p∈ps,p.lo≤r.lo):Inv (ps++[r]) (join out r):=by
 have hall : ∀ x∈out,x.lo≤r.lo:=fun x hx=>by obtain⟨p,hp,e⟩:=h.low x hx; have:=hlo p hp; omega
 have hone : ∀ v,inside [r] v=(decide (r.lo≤v) && decide (v≤r.hi)):=fun v=>by simp [inside]
 have plain:(∀ t,out.getLast? = some t→glue t r=false)→Inv (ps++[r]) (out++[r]):=by
  intro hng
  refine⟨?_,?_,?_,?_,?_⟩
  ·intro x hx
   rw[qI] at hx
   rcases hx with hx | hx
   ·exact h.f x hx
   ·simp at hx; subst hx; exact hr
  ·rw[List.pairwise_append]
   exact⟨h.pw,by simp,fun a ha b hb=>by simp at hb; subst hb; exact hall a ha⟩
  ·intro i a b ha hb
   rcases zM (i+1) out.length with h1 | h1
   ·rw[zO (by omega)] at ha hb
    exact h.gap i a b ha hb
   ·have h2:i+1=out.length:=by
     have:=CJ hb
     simp at this; omega
    rw[wQ h1,h2] at hb
    rw[zO (by omega)] at ha
    simp at hb; subst hb
    refine hng a ?_
    rw[List.getLast?_eq_getElem?,← ha]
    congr 1; omega
  ·intro v; rw[OG,OG,h.ins]
  ·intro x hx
   rw[qI] at hx
   rcases hx with hx | hx
   ·obtain⟨p,hp,e⟩:=h.low x hx; exact⟨p,by simp [hp],e⟩
   ·simp at hx; subst hx; exact⟨x,by simp,rfl⟩
 unfold join
 cases hl:out.getLast? with
 | none=>exact plain (fun t ht=>by rw[hl] at ht; cases ht)
 | some t =>
   obtain⟨ini,rfl⟩ : ∃ ini,out=ini++[t]:=by
    obtain⟨ini,hi⟩:=List.getLast?_eq_some_iff.1 hl
    exact⟨ini,hi⟩
   cases hg:glue t r with
   | false=>simp only[hg,Bool.false_eq_true,if_false]; exact plain (fun t' ht'=>by rw[hl] at ht'; cases ht'; exact hg)
   | true =>
     simp only[hg,if_true,List.dropLast_concat]
     have ht:=h.f t (by simp)
     have htl:=hall t (by simp)
     have hft:full ⟨t.lo,max t.hi r.hi⟩=true:=by
      have h1:=ht.1
      simp only[full,decide_eq_true_eq] at h1 ⊢
      omega
     refine⟨?_,?_,?_,?_,?_⟩
     ·intro x hx
      rw[qI] at hx
      rcases hx with hx | hx
      ·exact h.f x (by simp [hx])
      ·simp at hx; subst hx
       refine⟨hft,?_⟩
       obtain⟨_,⟨h2,h3⟩,h4,h5⟩:=ht
       obtain⟨_,⟨k2,k3⟩,k4,k5⟩:=hr
       exact⟨⟨h2,h3⟩,by show _≤max t.hi r.hi; omega,by show max t.hi r.hi≤_; omega⟩
     ·have hp:=h.pw
      rw[List.pairwise_append] at hp ⊢
      exact⟨hp.1,by simp,fun a ha b hb=>by simp at hb; subst hb; exact hp.2.2 a ha t (by simp)⟩
     ·intro i a b ha hb
      rcases zM (i+1) ini.length with h1 | h1
      ·rw[zO (by omega)] at ha hb
       exact h.gap i a b (by rw[zO (by omega)]; exact ha) (by rw[zO (by omega)]; exact hb)
      ·have h2:i+1=ini.length:=by
        have:=CJ hb
        simp at this; omega
       rw[wQ h1,h2] at hb
       rw[zO (by omega)] at ha
       simp at hb; subst hb
       have:=h.gap i a t (by rw[zO (by omega)]; exact ha) (by rw[wQ h1,h2]; simp)
       unfold glue at this ⊢
       exact this
     ·intro v
      rw[OG,OG,← h.ins,OG,hone,Bool.or_assoc]
      congr 1
      have:=AO6 ht hr htl hg v
      simp only[inside,List.any_cons,List.any_nil,Bool.or_false]
      exact this
     ·intro x hx
      rw[qI] at hx
      rcases hx with hx | hx
      ·obtain⟨p,hp,e⟩:=h.low x (by simp [hx]); exact⟨p,by simp [hp],e⟩
      ·simp at hx; subst hx
       obtain⟨p,hp,e⟩:=h.low t (by simp)
       exact⟨p,by simp [hp],e⟩
end Go.Proofs.YtfpagfhhhlljjaaGreatDoor.Bins
