/- Part 5 of the proof (P1, C1, C2, C3, Bs, Bt, O15, O16, O18, Sy, O21, O22, O23, S1, S2, O25, O32, O26, O27, O29, O30, O24, O31, O33, S3, S4, W4, W5, S7, J1, J2, J3, O34, O35, O42, J4, J5, J6, S5, J7, O37); no condition. -/
import Derived.Shelf.SlSortCmp.WholeK
import Derived.Shelf.SlSortCmp.NoneTotal
import Derived.Shelf.SlicesG.Cmp
import Derived.Shelf.Spec.SlicesGrow
import Derived.Test.YtiihpnicbekebaaGreatDoorCD4
set_option linter.unusedVariables false
set_option linter.unusedSimpArgs false
set_option maxRecDepth 8000
set_option maxHeartbeats 8000000
open Go.Proofs.YtiihpnicbekebaaGreatDoor.Sm.ABlk renaming live→qF
open Bool renaming false_eq_true→qI,not_false→jE,or_eq_false_iff→wB,or_false→zY
open Go.Proofs.Tryz renaming prog→jA
open Int renaming toNat_natCast→qN
open List renaming all_eq_true→zJ,any_eq_false→qM,any_eq_true→qK,append_nil→jO,contains_cons→zA,contains_nil→jY,drop_eq_nil_of_le→jR,drop_zero→zM,eq_nil_of_length_eq_zero→qU,findIdx?_eq_none_iff→wU,findIdx?_eq_some_iff_getElem→wS,foldl_cons→qO,getElem?_append_left→qH,getElem?_drop→wQ,getElem?_eq_getElem→jI,getElem?_eq_none→zW,getElem?_map→jX,getElem?_set_ne→zL,getElem?_set→zG,getElem_mem→jH,getElem_of_mem→qR,length_append→jS,length_cons→zH,length_eq_zero_iff→wR,length_map→jL,length_nil→zN,length_pos_iff→qQ,length_set→qX,length_take→jU,length→wH,map_append→qL,map_cons→jK,map_map→wF,map_nil→jM,mem_append→zX,mem_cons→zK,mem_map→qE,mem_of_getElem?→zU,mem_singleton→qP,range→zI,replicate→zD,take_of_length_le→jJ,take_succ_eq_append_getElem→jW,take_zero→qB
open Nat renaming add_mul→qC,add_zero→jV,le_of_ble_eq_true→jB,le_refl→jF,lt_or_ge→jZ,reduceAdd→jP,reduceBEq→zB,reduceEqDiff→jC,zero_add→jG,zero_le→qG
open Option renaming getD_none→jQ,getD_some→jD
namespace Go.Proofs.YtiihpnicbekebaaGreatDoor.Bins
open Sm
def full (r:Rng):Bool:=decide (r.lo<=r.hi)
def glue (t r:Rng):Bool:=decide (r.lo<=t.hi)||decide (IntKind.i64.wrap (r.lo-1)=t.hi)
def join (out:List Rng)(r:Rng):List Rng:=match out.getLast? with
 | some t=>if glue t r then out.dropLast++[⟨t.lo,max t.hi r.hi⟩] else out++[r]
 | none=>out++[r]
def bE (xs:List Rng):List Rng:=xs.foldl join []
def AKU (a b:Rng):Bool:=decide (a.lo<=b.lo)
def normal (xs:List Rng):List Rng:=bE ((xs.filter full).mergeSort AKU)
theorem AJV {out:List Rng}{a b:Rng}(h:a.lo=b.lo)(ha:full a=true)(hb:full b=true):join (join out a) b=join (join out b) a:=by
 simp only[full,decide_eq_true_eq] at ha hb
 have key:∀(init:List Rng) (t r s:Rng),glue t s=true->(join (init++[t]) s)=init++[⟨t.lo,max t.hi s.hi⟩]:=by
  intro init t r s hg;simp [join,hg]
 cases hl:out.getLast? with
 | none =>
   have:out=[]:=BL hl;subst this;have e1:join [] a=[]++[a]:=rfl;have e2:join [] b=[]++[b]:=rfl;rw[e1,e2,key [] a a b (by simp [glue]; omega),key [] b b a (by simp [glue]; omega)];simp [h,Int.max_comm]
 | some t =>
   obtain⟨init,rfl⟩:∃init,out=init++[t]:=by
    have:=List.getLast?_eq_some_iff.1 hl;exact this
   have hg:glue t a=glue t b:=by unfold glue; rw[h]
   cases hc:glue t a with
   | true =>
     have hc':glue t b=true:=by rw[<-hg]; exact hc
     rw[key init t a a hc,key init t b b hc',key init _ a b (by simp [glue]; omega),key init _ b a (by simp [glue]; omega)];simp only[Int.max_assoc,Int.max_comm a.hi b.hi]
   | false =>
     have hc':glue t b=false:=by rw[<-hg]; exact hc
     have e1:join (init++[t]) a=(init++[t])++[a]:=by simp [join,hc]
     have e2:join (init++[t]) b=(init++[t])++[b]:=by simp [join,hc']
     rw[e1,e2,key (init++[t]) a a b (by simp [glue]; omega),key (init++[t]) b b a (by simp [glue]; omega)];simp [h,Int.max_comm]
theorem AYY {a:Rng}(ha:full a=true):∀(pre:List Rng) (rest out:List Rng),(∀x∈pre,x.lo=a.lo∧full x=true)->(pre++a::rest).foldl join out=(a::(pre++rest)).foldl join out
 | [],rest,out,_=>rfl
 | p::pre,rest,out,h=>by
   have hp:=h p A8;have ih:=AYY ha pre rest (join out p) (fun x hx=>h x (by simp [hx]))
   simp only[List.cons_append,qO] at ih|-
   rw[ih,AJV hp.1 hp.2 ha]
theorem pE:∀(xs ys:List Rng) (out:List Rng),xs.Perm ys->xs.Pairwise (fun a b=>a.lo<=b.lo)->ys.Pairwise (fun a b=>a.lo<=b.lo)->(∀x∈xs,full x=true)->xs.foldl join out=ys.foldl join out
 | [],ys,out,hp,_,_,_=>by rw[List.nil_perm.1 hp]
 | a::xs,ys,out,hp,hx,hy,hf=>by
   have hmem:a∈ys:=hp.subset A8;obtain⟨pre,rest,rfl⟩:=List.append_of_mem hmem
   have hpre:∀x∈pre,x.lo=a.lo∧full x=true:=by
    intro x hxp;have h1:x.lo<=a.lo:=(List.pairwise_append.1 hy).2.2 x hxp a A8;have h2:x∈a::xs:=hp.symm.subset (by simp [hxp])
    have h3:a.lo<=x.lo:=by
     rcases List.mem_cons.1 h2 with rfl|h2
     .exact Int.le_refl _
     .exact(List.pairwise_cons.1 hx).1 x h2
    exact⟨U,hf x h2⟩
   rw[AYY (hf a A8) pre rest out hpre];simp only[qO];have hp':xs.Perm (pre++rest):=(List.perm_cons a).1 (hp.trans (List.perm_middle));refine pE xs (pre++rest) _ hp' (List.pairwise_cons.1 hx).2 ?_ (fun x h=>hf x (by simp [h]));have:=List.pairwise_append.1 hy;rw[List.pairwise_append];exact⟨this.1,(List.pairwise_cons.1 this.2.1).2,fun x h1 y h2=>this.2.2 x h1 y (by simp [h2])⟩
theorem AJJ {xs ys:List Rng}(hp:ys.Perm (xs.filter full))(hs:ys.Pairwise (fun a b=>a.lo<=b.lo)):bE ys=normal xs:=by
 unfold normal bE;refine pE _ _ _ (hp.trans (List.mergeSort_perm _ _).symm) hs ?_ (fun x hx=>by have:=hp.subset hx; simp at this; exact this.2);have:=List.pairwise_mergeSort (le:=AKU) (fun a b c h1 h2=>by simp [AKU] at *; omega) (fun a b=>by simp [AKU]; omega) (xs.filter full);exact this.imp (by simp [AKU])
end Go.Proofs.YtiihpnicbekebaaGreatDoor.Bins
namespace Go.Proofs.YtiihpnicbekebaaGreatDoor.Bins
open Sm
variable {h:Hp} (G:Nat->AV )
theorem row_map {α:Type}{f:α->List AV}{xs:List α}{k:Nat}(h:k<xs.length):(xs.map f)[k]?=some (f xs[k]):=by simp [h]
theorem vW {row cs:List AV}(h:row.length=cs.length):splice row 0 cs=cs:=by simp [splice,h]
theorem nO (G:Nat->AV)(xs:List Rng)(b:Nat)(fid:FuncId)(caps:List AV)(p:Rng->Bool)(h:Hp)(hl:xs.length<=1099511627776)(hb:h[b]?=some (qF 2 (xs.map encR)))
  (hf:∀r,PCall (En G) fid (.agg (encR r)::caps) h (.bool (p r))) :
  PCall (En G) 326 [.own b 0 xs.length,.fn (.func fid) [] caps] h (.n (match xs.findIdx? p with|some i=>(i:Int)|none => -1)):=by
 refine acT Tryz.func326 4 ?_;refine Z ?_;refine BB (fun n F H=>∃k,n+k=xs.length∧F 0=.own b 0 xs.length∧F 1=.fn (.func fid) [] caps∧F 7=.n xs.length∧F 8=.n (k:Nat)∧H=h∧(xs.take k).all (fun r => !p r)=true) xs.length ⟨0,A8,rfl,rfl,rfl,rfl,rfl,rfl⟩ ?_;rintro n F H ⟨k,hk,f0,f1,f7,f8,rfl,hin⟩;refine EO f0 f1 f7 f8 ?_;refine DU ?_ ?_<;>intro hc'
 .have e1:BO jA H 145 (.ptr b k 0)=some (.agg (encR xs[k])):=by
   rw[EH fN MJ hb (row_map hc') (by simp [encR])]; rfl
  simp -implicitDefEqProofs only[vQ,CJ,List.nil_append,List.cons_append,↓reduceIte,jC,enP,YM,f0,f1,f7,f8,IG hb hc',e1];refine(hf _).uu ?_;refine BG ?_ ?_<;>intro hb
  .refine Z ?_
   refine⟨?_,trivial⟩
   rw[wS.2 ⟨hc',hb,fun j hj=>by
    rw[zJ] at hin;have:=hin xs[j] (by rw[List.mem_take_iff_getElem]; exact⟨j,U,rfl⟩)
    simpa using this⟩]
  .refine AQ f8 (CW k) ?_
   refine⟨n-1,U,k+1,U,f0,f1,f7,rfl,trivial,?_⟩;rw[jW hc',List.all_append,hin];simp only[List.all_cons,List.all_nil,hb]; rfl
 .refine Z ?_
  refine⟨?_,trivial⟩;rw[jJ U] at hin;rw[wU.2 (BL hin)]
theorem AA8 (r:Rng)(h:Hp):PCall (En G) 295 [.agg (encR r)] h (.bool (!full r)):=by
 refine ACalls.pure0 rfl ?_;refine acT Tryz.func295 2 ?_;refine JZ @bxR @XG @VS ?_;refine⟨?_,_,rfl⟩;congr 1;unfold full;rw[Bool.eq_iff_iff]; simp
theorem AEF (G:Nat->AV)(xs:List Rng)(b:Nat)(fid:FuncId)(p:Rng->Bool)(h0 h:Hp)(hl:xs.length<=1099511627776)(he:ext h0 h)(hb0:h0.length<=b)(hb:h[b]?=some (qF 2 (xs.map encR)))
  (hf:∀r H,PCall (En G) fid [.agg (encR r)] H (.bool (p r))) :
  ACalls (En G) 293 [.own b 0 xs.length,.fn (.func fid) [] []] h fun v H=>v=.own b 0 (xs.filter fun r => !p r).length∧ext h0 H∧∃tail,H[b]?=some (qF 2 ((xs.filter fun r => !p r).map encR++tail)):=by
 refine acT Tryz.func293 4 ?_;refine Z ?_;refine(nO G xs b fid [] p h hl hb (fun r=>hf r h)).uu ?_
 cases hi:xs.findIdx? p with
 | none =>
   refine Z ?_;refine BG ?_ ?_<;>intro hc
   .refine Z ?_
    have:xs.filter (fun r => !p r)=xs:=by
     rw[wU] at hi;rw[List.filter_eq_self]; intro x hx; simp [hi x hx]
    rw[this];exact⟨rfl,he,[],BL hb⟩
   .simp at hc
 | some i0 =>
   refine Z ?_;obtain⟨hi1,hi2,hi3⟩:=wS.1 hi;refine BG ?_ ?_<;>intro hc
   .simp at hc
   refine AO (CW i0) ?_;refine BB (fun n F H=>∃i j zs,n+j=xs.length∧i<j∧F 0=.own b 0 xs.length∧F 1=.fn (.func fid) [] []∧F 5=.n (i:Nat)∧F 6=.n (j:Nat)∧ext h0 H∧H[b]?=some (qF 2 (zs.map encR))∧zs.length=xs.length∧zs.take i=(xs.take j).filter (fun r => !p r)∧zs.drop j=xs.drop j) (xs.length-(i0+1)) ⟨i0,i0+1,xs,U,U,AC,AC,AC,AC,he,hb,rfl,?_,rfl⟩ ?_
   .rw[jW hi1,List.filter_append]
    simp [hi2];refine(List.filter_eq_self.2 ?_).symm;intro x hx;rw[List.mem_take_iff_getElem] at hx;obtain⟨j,hj,rfl⟩:=hx;have:=hi3 j U;simpa using this
   rintro n F H ⟨i,j,zs,hn,hij,f0,f1,f5,f6,hex,hz,hzl,hzt,hzd⟩;refine AQ f0 f6 ?_;refine DU ?_ ?_<;>intro hd'
   .have hdz:j<zs.length:=U
    have e0:zs[j]=xs[j]:=by
     have h1:(zs.drop j)[0]?=(xs.drop j)[0]? := by rw[hzd]
     rw[wQ,wQ,jV,jI hdz,jI hd'] at h1;exact Option.some.inj h1
    have e1:BO jA H 145 (.ptr b j 0)=some (.agg (encR xs[j])):=by
     rw[EH fN MJ hz (row_map hdz) (by simp [encR]),e0]; rfl
    have ld:BO jA (H++[qF 2 [encR xs[j]]]) 145 (.ptr (wH H) 0 0)=some (.agg (encR xs[j])):=X8 fN MJ (by simp [encR]);simp -implicitDefEqProofs only[vQ,CJ,List.append_nil,↓reduceIte,jC,enP,YM,jQ,f0,f1,f6,IG hz hd',e1,AK4,AIM _ _ [.n 0,.n 0] rfl,ld];refine(hf _ _).uu ?_
    have htk:(xs.take (j+1)).filter (fun r => !p r)=(xs.take j).filter (fun r => !p r)++(if p xs[j] then [] else [xs[j]]):=by
     rw[jW hd',List.filter_append];cases hp:p xs[j]<;>simp [hp]
    have hz2:(H++[qF 2 [encR xs[j]]])[b]?=some (qF 2 (zs.map encR)):=AL hz
    have hdrop:zs.drop (j+1)=xs.drop (j+1):=by
     have:=congrArg (List.drop 1) hzd;simpa [Nat.add_comm] using this
    refine BG ?_ ?_<;>intro hp
    .have hp':p xs[j]=false:=BL hp
     have hiz:i<zs.length:=U;have hix:i<xs.length:=U
     have st:DX jA (H++[qF 2 [encR xs[j]]]) 145 (.ptr b i 0) (.agg (encR xs[j]))=some ((H++[qF 2 [encR xs[j]]]).set b (qF 2 ((zs.set i xs[j]).map encR))):=by
      rw[G9 (cs:=encR xs[j]) rfl MJ hz2 (row_map hiz) (by simp [encR]),vW (by simp [encR]),List.map_set]
     simp -implicitDefEqProofs only[vQ,CJ,↓reduceIte,jC,enP,YM,jQ,f0,f5,ld,IG hz2 hix,st,CW i,f6,CW j];refine⟨n-1,U,i+1,j+1,zs.set i xs[j],U,U,trivial,f1,rfl,rfl,(hex.app _).set hb0 _,CQ hz2,BL hzl,?_,?_⟩
     .rw[htk,hp',<-hzt,jW (BL hiz),List.take_set,List.set_eq_of_length_le MS]
      simp
     .rw[List.drop_set_of_lt U]; exact hdrop
    .have hp':p xs[j]=true:=BL hp
     refine AQ f6 (CW j) ?_;refine⟨n-1,U,i,j+1,zs,U,U,f0,f1,f5,rfl,hex.app _,hz2,hzl,?_,hdrop⟩;rw[htk,hp',hzt]; simp
   .have hjl:j=xs.length:=U
    have hfl:(xs.filter fun r => !p r)=zs.take i:=by
     rw[hzt,jJ U]
    have hil:i<=zs.length:=U;have hlen:(xs.filter fun r => !p r).length=i:=by rw[hfl]; simp; omega
    have hs1:IQ jA H 84 (.own b 0 xs.length) (some (.n (i:Int))) none none=some (.own b i (xs.length-i)):=by
     have:=yH ZA MJ (kk:=.i64) (off:=0) (len:=xs.length) (l:=i) hz U;rw[jG] at this; exact this
    have hcl:eK jA H 84 (.own b i (xs.length-i))=some (F7,H.set b (qF 2 (Sm.rowsSet (zs.map encR) i (zD (xs.length-i) [.n 0,.n 0])))):=by
     have hz0:MB jA 145=some [.n 0,.n 0]:=AZ;simp only[eK,ZA,hz0,hz];rw[if_pos];refine⟨rfl,?_⟩;simp; omega
    have hs2:IQ jA (H.set b (qF 2 (Sm.rowsSet (zs.map encR) i (zD (xs.length-i) [.n 0,.n 0])))) 84 (.own b 0 xs.length) none (some (.n (i:Int))) none=some (.own b 0 i):=AWB ZA MJ (CQ hz) U;refine MR @AQS f0 f5 hs1 hcl hs2 ?_;refine⟨by rw[hlen],hex.set hb0 _,?_⟩;rw[CQ hz,hfl];refine⟨zD (xs.length-i) [.n 0,.n 0]++(zs.map encR).drop (i+(xs.length-i)),?_⟩;simp [Sm.rowsSet,List.map_take]
theorem ATK (xs:List Rng)(m:SM)(h:Hp)(hl:xs.length<=16777216):
  ACalls (En G) 294 [.sl m 2 (xs.map encR)] h (AXG 2 (xs.map encR) h):=by
 refine ACalls.of_rep (cok _ _ AZ) fun⟨g,cargs,ha⟩=>?_
 refine acT Tryz.func294 2 ?_;refine AO AY4 ?_;refine BG ?_ ?_<;>intro hc
 .have hm:m=.nil:=BL hc
  subst hm;refine AO @decide_true ?_;exact .inl ⟨ADJ ha (i:=0) rfl,⟨_,rfl⟩,rfl⟩
 .refine AO @AXP ?_
  rcases Classical.em (xs=[]) with hx|hx
  .subst hx
   simp -implicitDefEqProofs only[vQ,CJ,↓reduceIte,AP2 ZA MJ (.inr rfl)];exact .inr (.inl ⟨rfl,rfl,rfl⟩)
  .have hr:room (([]:List (List AV)).length+(xs.map encR).length) 16:=I5 (BL hl) U
   have hne:xs.map encR≠[]:=BL hx;refine AO (mM ZA MJ ALD APC (IE h m 2 (xs.map encR)) hne hr) ?_;exact .inr (.inr ⟨BL hx,A8,A8⟩)
theorem kS (m:SM)(k:Nat)(fv:AV)(h:Hp):PCall (En G) 326 [.sl m k [],fv] h (.n (-1)):=by
 refine acT Tryz.func326 4 ?_;refine XQ ?_;refine BB (fun n F H=>F 7=.n ((0:Nat):Int)∧F 8=.n 0∧H=h) 0 ⟨rfl,rfl,rfl⟩ ?_;rintro n F H ⟨f7,f8,rfl⟩;refine AQ f7 f8 ?_;refine BG ?_ ?_<;>intro hc
 .simp at hc
 .refine Z ?_
  exact G8
theorem fD (m:SM)(k:Nat)(fv:AV)(h:Hp):PCall (En G) 293 [.sl m k [],fv] h (.sl m k []):=by
 refine acT Tryz.func293 4 ?_;refine Z ?_;refine(kS G m k fv h).uu ?_;refine BG ?_ ?_<;>intro hc
 .refine Z ?_
  exact G8
 .simp at hc
structure SortOk (G:Nat->AV):Prop where
 own:∀(xs:List Rng) (b:Nat) (tail:List (List AV)) (h0 h:Hp),xs.length<=16777216->ext h0 h->h0.length<=b->h[b]?=some (qF 2 (xs.map encR++tail)) ->
  ACalls (En G) 296 [.own b 0 xs.length,.fn (.func 297) [] []] h fun _ H=>ext h0 H∧∃ys:List Rng,ys.Perm xs∧ys.Pairwise (fun a b=>a.lo<=b.lo)∧H[b]?=some (qF 2 (ys.map encR++tail))
 none:∀(m:SM) (k:Nat) (h:Hp),PCall (En G) 296 [.sl m k [],.fn (.func 297) [] []] h (.tup [])
def nm (ys:List Rng):SM:=if ys=[] then .nil else .any
def AWC (h:Hp)(out:List Rng)(b:Nat)(v:AV)(H:Hp):Prop :=
 (out=[]∧v=.sl .nil 0 [])∨(out≠[]∧∃o,h.length<=o∧o≠b∧v=.own o 0 out.length∧H[o]?=some (qF 2 (out.map encR)))
theorem API (h:Hp)(r:Rng):C9 jA false h 84 1 [(0,.agg (encR r))]=some (.sl .full 2 [encR r],h):=AZ
def srcR (h:Hp)(ys:List Rng)(b:Nat)(v:AV)(H:Hp):Prop :=
 (ys=[]∧∃m k,v=.sl m k [])∨(h.length<=b∧v=.own b 0 ys.length∧∃tail,H[b]?=some (qF 2 (ys.map encR++tail)))
theorem ANR (out:List Rng)(r:Rng):(join out r).length<=out.length+1:=by
 unfold join;split
 .split
  .simp
  .simp
 .simp
theorem dD:∀(xs out:List Rng),(xs.foldl join out).length<=out.length+xs.length
 | [],out=>A8
 | x::xs,out=>by
   have h1:=dD xs (join out x);have h2:=ANR out x;simp only[List.foldl_cons,List.length_cons];omega
theorem srcR.app {ys:List Rng}{b:Nat}{v:AV}{H:Hp}(hs:srcR h ys b v H)(x:ABlk):srcR h ys b v (H++[x]):=by
 rcases hs with h1|⟨h1,h2,tail,h3⟩
 .exact .inl h1
 .exact .inr ⟨h1,h2,tail,AL h3⟩
theorem srcR.set {h:Hp}{ys:List Rng}{b o:Nat}{v:AV}{H:Hp}(hs:srcR h ys b v H)(x:ABlk)(ho:o≠b):srcR h ys b v (H.set o x):=by
 rcases hs with h1|⟨h1,h2,tail,h3⟩
 .exact .inl h1
 .exact .inr ⟨h1,h2,tail,DC h3 ho.symm⟩
theorem sP (hS:SortOk G)(xs:List Rng)(m:SM)(h:Hp)(hl:xs.length<=8388608):
  ACalls (En G) 245 [.sl m 2 (xs.map encR)] h fun v H=>ext h H∧∃b,AWC h (normal xs) b v H:=by
 refine acT Tryz.func245 2 ?_;refine Z ?_;refine(ATK G xs m h U).mono fun vv H' hcl=>?_
 have hfl:(xs.filter full).length<=xs.length:=List.length_filter_le _ _;refine AIA (fun F H=>ext h H∧((xs.filter full=[]∧∃m k,F 3=.sl m k [])∨∃b,h.length<=b∧F 3=.own b 0 (xs.filter full).length∧∃tail,H[b]?=some (qF 2 ((xs.filter full).map encR++tail)))) ?_ ?_
 .rcases hcl with⟨hx,⟨k0,rfl⟩,rfl⟩|⟨hx,rfl,rfl⟩|⟨hx,rfl,rfl⟩
  .have hx':xs=[]:=BL hx
   refine Z ?_;refine(fD G _ _ _ _).uu ?_;exact⟨ext.rfl' _,.inl ⟨by rw[hx']; rfl,_,_,rfl⟩⟩
  .have hx':xs=[]:=BL hx
   refine Z ?_;refine(fD G _ _ _ _).uu ?_;exact⟨ext.rfl' _,.inl ⟨by rw[hx']; rfl,_,_,rfl⟩⟩
  .refine Z ?_
   refine(AEF G xs h.length 295 (fun r => !full r) h (h++[qF 2 (xs.map encR)]) U ⟨_,rfl⟩ (jF _) (AX _ _) (fun r H=>AA8 G r H)).mono ?_;rintro v H ⟨rfl,hex,tail,ht⟩;refine Z ?_;have e:(xs.filter fun r => !!full r)=xs.filter full:=A8
   rw[e] at ht|-
   exact⟨hex,.inr ⟨h.length,jF _,rfl,tail,ht⟩⟩
 rintro F H ⟨hex,hcase⟩;rw[BU,BZ];refine uO (fun F H=>ext h H∧∃ys:List Rng,ys.Perm (xs.filter full)∧ys.Pairwise (fun a b=>a.lo<=b.lo)∧∃b,srcR h ys b (F 3) H) (fun _ _=>False) ?_ ?_ (fun _ _ hh=>hh.elim)
 .rcases hcase with⟨hz,m0,k0,f3⟩|⟨b,hb,f3,tail,ht⟩
  .refine AO f3 ?_
   refine(hS.none m0 k0 H).uu ?_;exact⟨hex,[],by rw[hz],.nil,0,.inl ⟨rfl,m0,k0,f3⟩⟩
  .refine AO f3 ?_
   refine(hS.own (xs.filter full) b tail h H U hex hb ht).mono ?_;rintro v H' ⟨hex',ys,hp,hs,hy⟩;refine Z ?_;refine⟨hex',ys,hp,hs,b,.inr ⟨hb,?_,tail,hy⟩⟩;rw[hp.length_eq]; exact f3
 rintro F H ⟨hex,ys,hp,hs,b,hsrc⟩;have hyl:ys.length<=8388608:=by rw[hp.length_eq]; omega
 have hN:bE ys=normal xs:=AJJ hp hs;generalize hsv:F 3=sv at hsrc
 have hlen:JQ jA 84 sv=some (.n ys.length):=by
  rcases hsrc with⟨rfl,m0,k0,rfl⟩|⟨_,rfl,_⟩
  .exact kO.1 _ _ _
  .exact kO.2 _ _ _
 refine AQ hsv @hlen ?_;refine BB (fun n F H=>∃k,n+k=ys.length∧F 13=sv∧F 14=.n ys.length∧F 15=.n (k:Nat)∧ext h H∧srcR h ys b sv H∧AWC h ((ys.take k).foldl join []) b (F 4) H) ys.length ⟨0,A8,AC,AC,AC,hex,hsrc,.inl ⟨rfl,AC⟩⟩ ?_;clear hex hsrc hsv;rintro n F H ⟨k,hk,f13,f14,f15,hex,hsrc,hout⟩;refine AQ f14 f15 ?_;refine DU ?_ ?_<;>intro hc'
 .have htk:(ys.take (k+1)).foldl join []=join ((ys.take k).foldl join []) ys[k]:=by
   rw[jW hc',List.foldl_append]; rfl
  have hol0:((ys.take k).foldl join []).length<=8388608:=by
   have:=dD (ys.take k) [];simp at this; omega
  generalize (ys.take k).foldl join []=out at hout htk hol0;have hsrc':=hsrc;rcases hsrc with⟨rfl,_⟩|⟨hb,rfl,tail,ht⟩
  .simp at hc'
  have e1:BO jA H 145 (.ptr b k 0)=some (.agg (encR ys[k])):=by
   rw[EH fN MJ ht (row:=encR ys[k]) (by rw[List.getElem?_append_left (by simpa using hc')]; exact row_map hc') (by simp [encR])]; rfl
  have ht2:(H++[qF 2 [encR ys[k]]])[b]?=some (qF 2 (ys.map encR++tail)):=AL ht;have ld:BO jA (H++[qF 2 [encR ys[k]]]) 145 (.ptr (wH H) 0 0)=some (.agg (encR ys[k])):=X8 fN MJ (by simp [encR]);rcases hout with⟨rfl,f4⟩|⟨hne,o,ho1,ho2,f4,ho⟩
  .have dneg:decide ((IntKind.i64.wrap (((0:Nat):Int)-1))≥0)=false:=by rw[wrap_i64 U U]; simp
   simp -implicitDefEqProofs only[vQ,CJ,NW,↓reduceIte,jC,enP,YM,kO,jQ,f13,f15,IG ht hc',e1,AK4,AIM _ _ [.n 0,.n 0] rfl,f4,List.length_nil];refine DJ AZ ?_;have h1:([encR ys[k]]:List (List AV))≠[]:=A8;simp -implicitDefEqProofs only[vQ,LC,KD,IM,KI,ACG,AT9,Q3,ED,CJ,FM,GH,JX,LM,↓reduceIte,jC,jP,enP,dneg,ld,f4,API,VL ZA MJ ALD APC (IE (H++[qF 2 [encR ys[k]]]) .full 2 [encR ys[k]]) h1 (I5 A8 U),f15,CW k];refine⟨n-1,U,k+1,U,f13,f14,rfl,(hex.app _).app _,(hsrc'.app _).app _,?_⟩;rw[htk];have hbl:=AB ht;exact .inr ⟨by simp [join],_,by simp; have:=hex.le; omega,by simp; omega,rfl,by simp [join]⟩
  .obtain⟨init,t,rfl⟩:∃init t,out=init++[t]:=⟨out.dropLast,out.getLast hne,(List.dropLast_concat_getLast hne).symm⟩
   have hol:=AB ho;have hbl:=AB ht
   have hlast:(IntKind.i64.wrap (((init++[t]).length:Int)-1))=((init.length:Nat):Int):=by
    rw[wrap_i64 U U]; simp
   have dpos:decide (((init.length:Nat):Int)≥0)=true:=A8;have ho3:(H++[qF 2 [encR ys[k]]])[o]?=some (qF 2 ((init++[t]).map encR)):=AL ho;have hil:init.length<(init++[t]).length:=A8;have erow:((init++[t]).map encR)[init.length]?=some (encR t):=A8;have lhi:BO jA (H++[qF 2 [encR ys[k]]]) 3 (.ptr o init.length 1)=some (.n t.hi):=by rw[BH ag3 ho3 erow]; rfl
   simp -implicitDefEqProofs only[vQ,CJ,NW,↓reduceIte,jC,enP,YM,kO,jQ,f13,f15,IG ht hc',e1,AK4,AIM _ _ [.n 0,.n 0] rfl,f4,hlast];refine DJ AZ ?_;simp -implicitDefEqProofs only[vQ,IM,KI,Y7,ED,cB,LM,↓reduceIte,jC,jP,enP,YM,VH,VG,dpos,D6 ag3,XG,VS,f4,IG ho3 hil,lhi];refine AXW (fun F H'=>F 44=.bool (glue t ys[k])∧F 13=.own b 0 ys.length∧F 14=.n ys.length∧F 15=.n (k:Nat)∧F 4=.own o 0 (init++[t]).length∧F 6=.ptr H.length 0 0∧F 7=.n (init.length:Nat)∧H'=H++[qF 2 [encR ys[k]]]) ?_ ?_
   .refine mU ?_ ?_<;>intro ha
    .refine JL ha f4 f13 f14 f15 ?_
     exact⟨by unfold glue; rw[ha]; rfl,trivial,trivial,trivial,trivial,trivial,trivial,trivial⟩
    .simp -implicitDefEqProofs only[vQ,IM,KI,Y7,XR,Q3,ED,NW,JO,↓reduceIte,jC,jP,enP,YM,VH,VG,ha,D6 ag3,XG,VS,f4,f13,f14,f15,IG ho3 hil,lhi]
     exact⟨by unfold glue; rw[ha]; rfl,trivial,trivial,trivial,trivial,trivial,trivial,trivial⟩
   clear f13 f14 f15 f4;rintro F H' ⟨f44,f13,f14,f15,f4,f6,f7,rfl⟩;refine AO f44 ?_;refine BG ?_ ?_<;>intro hg
   .have st:∀v:Int,DX jA (H++[qF 2 [encR ys[k]]]) 3 (.ptr o init.length 1) (.n v)=some ((H++[qF 2 [encR ys[k]]]).set o (qF 2 ((init++[Rng.mk t.lo v]).map encR))):=by
     intro v;have h2:=G9 (P:=jA) (t:=3) (j:=1) (v:=.n v) (cs:=[.n v]) rfl sz3 ho3 erow (by simp [encR]);have h3:((init++[t]).map encR).set init.length (splice (encR t) 1 [.n v])=(init++[Rng.mk t.lo v]).map encR:=by simp [encR,splice]
     rw[h2,h3]
    refine Z ?_;refine DJ AZ ?_;simp -implicitDefEqProofs only[vQ,PG,P8,IL,UI,iP,Y5,CJ,ALN,ADP,↓reduceIte,jC,jP,enP,YM,VG,jQ,f4,f6,f7,IG ho3 hil,lhi,D6 ag3,VS,st,f15,CW k];refine⟨n-1,U,k+1,U,f13,f14,rfl,(hex.app _).set ho1 _,(hsrc'.app _).set _ ho2,?_⟩;rw[htk];have hj:join (init++[t]) ys[k]=init++[⟨t.lo,max t.hi ys[k].hi⟩]:=by simp [join,hg]
    rw[hj];exact .inr ⟨A8,o,ho1,ho2,A8,CQ ho3⟩
   .have h1:([encR ys[k]]:List (List AV))≠[]:=A8
    have hc1:JF (H++[qF 2 [encR ys[k]]]) (.own o 0 (init++[t]).length)=some (2,(init++[t]).map encR):=by
     rw[J6 ho3 A8,zM,jJ A8]
    refine NZ ld f4 f6 @API (TK ZA MJ ALD APC hc1 (IE (H++[qF 2 [encR ys[k]]]) .full 2 [encR ys[k]]) h1 (I5 (by simp at hol0|-; omega) U)) f15 (CW k) ?_;refine⟨n-1,U,k+1,U,f13,f14,rfl,((hex.app _).set ho1 _).app _,((hsrc'.app _).set _ ho2).app _,?_⟩;rw[htk];have hj:join (init++[t]) ys[k]=(init++[t])++[ys[k]]:=by simp [join,hg]
    rw[hj];exact .inr ⟨A8,(H++[qF 2 [encR ys[k]]]).length,by simp; have:=hex.le; omega,by simp; omega,A8,A8⟩
 .have:k=ys.length:=U
  subst this;rw[List.take_length] at hout;have hN':ys.foldl join []=normal xs:=hN;rw[hN'] at hout;refine Z ?_;exact⟨hex,b,hout⟩
theorem frz_rows (n:Nat)(h:Hp)(d:Nat)(xs:List Rng):(xs.map encR).map (·.map (FI n h (d+1)))=xs.map encR:=by
 rw[List.map_map];congr 1
theorem frzF_own (n:Nat)(h:Hp)(d b off len k:Nat)(xs:List (List AV))(hn:¬b<n)(hb:h[b]?=some (qF k xs)):FI n h (d+1) (.own b off len)=if off+len<=xs.length∧(((xs.drop off).take len).map (·.map (FI n h d))).all (·.all AV.leaf)=true then .sl .any k (((xs.drop off).take len).map (·.map (FI n h d))) else .junk:=by
 rw[FI];simp only[hn,if_false,hb]
theorem frz_own {n d:Nat}{o:Nat}{xs:List Rng}(hn:n<=o)(ho:h[o]?=some (qF 2 (xs.map encR))):FI n h (d+2) (.own o 0 xs.length)=.sl .any 2 (xs.map encR):=by
 rw[frzF_own n h (d+1) o 0 xs.length 2 _ U ho,zM,jJ A8,frz_rows n h d xs];rw[if_pos];refine⟨A8,?_⟩;rw[zJ];intro row hr;obtain⟨x,_,rfl⟩:=List.mem_map.1 hr;rfl
theorem AJE {G:Nat->AV}{f:FuncId}{args:List AV}{ys:List Rng}(hc:ACalls (En G) f args h fun v H=>ext h H∧∃b,AWC h ys b v H):PCall (En G) f args h (.sl (nm ys) 2 (ys.map encR)):=by
 have h1:PCall (En G) f args h (if ys=[] then AV.sl .nil 0 [] else .sl .any 2 (ys.map encR)):=by
  refine ACalls.pure 2 hc ?_;rintro v H ⟨hex,b,hout⟩;refine⟨hex,?_⟩;rcases hout with⟨rfl,rfl⟩|⟨hne,o,ho1,_,rfl,ho⟩
  .rfl
  .rw[if_neg hne]; exact frz_own ho1 ho
 refine ACalls.conv h1 ?_;rintro v H ⟨rfl,rfl⟩;refine⟨_,⟨rfl,rfl⟩,?_⟩;intro g cv hr;unfold nm;split at hr
 .rename_i hz; subst hz; exact yQ hr
 .rename_i hz; rw[if_neg hz]; exact hr
theorem yN (hS:SortOk G)(xs:List Rng)(m:SM)(h:Hp)(hl:xs.length<=8388608):PCall (En G) 245 [.sl m 2 (xs.map encR)] h (.sl (nm (normal xs)) 2 ((normal xs).map encR)) :=
 AJE (sP G hS xs m h hl)
end Go.Proofs.YtiihpnicbekebaaGreatDoor.Bins
namespace Go.Proofs.YtiihpnicbekebaaGreatDoor.Bins
open Sm Go.Shelf Go.RowKit Go.Lib Go.Sort
variable (G:Nat->AV )
def AIO:Go.Shelf.Ren:=⟨fun|6=>296|15=>328|14=>327|28=>367|29=>368|20=>359|21=>360|22=>361|23=>362|24=>363|25=>364|26=>365|27=>366|46=>400|47=>401|48=>402|49=>403|50=>404|57=>414|n=>n,fun|22=>84|24=>145|25=>326|3=>3|39=>344|0=>0|53=>364|55=>366|4=>4|46=>358|45=>357|50=>135|5=>5|9=>9|66=>379|70=>281|76=>388|77=>389|n=>n,fun|n=>n⟩
theorem AL8:Go.Proofs.SlLaysF0.n6 jA AIO := {
 mixed:=AZ,
 f6:=⟨Tryz.f296.name,by decide,Tryz.func296.trans (congrArg some AZ)⟩,
 f14:=⟨Tryz.f327.name,by decide,Tryz.func327.trans (congrArg some AZ)⟩,
 f15:=Tryz.func328.trans (congrArg some AZ),
 f20:=⟨Tryz.f359.name,by decide,Tryz.func359.trans (congrArg some AZ)⟩,
 f21:=⟨Tryz.f360.name,by decide,Tryz.func360.trans (congrArg some AZ)⟩,
 f22:=⟨Tryz.f361.name,by decide,Tryz.func361.trans (congrArg some AZ)⟩,
 f23:=⟨Tryz.f362.name,by decide,Tryz.func362.trans (congrArg some AZ)⟩,
 f24:=⟨Tryz.f363.name,by decide,Tryz.func363.trans (congrArg some AZ)⟩,
 f25:=⟨Tryz.f364.name,by decide,Tryz.func364.trans (congrArg some AZ)⟩,
 f26:=⟨Tryz.f365.name,by decide,Tryz.func365.trans (congrArg some AZ)⟩,
 f27:=⟨Tryz.f366.name,by decide,Tryz.func366.trans (congrArg some AZ)⟩,
 f28:=Tryz.func367.trans (congrArg some AZ),
 f29:=Tryz.func368.trans (congrArg some AZ),
 f46:=⟨Tryz.f400.name,by decide,Tryz.func400.trans (congrArg some AZ)⟩,
 f47:=Tryz.func401.trans (congrArg some AZ),
 f48:=Tryz.func402.trans (congrArg some AZ),
 f49:=⟨Tryz.f403.name,by decide,Tryz.func403.trans (congrArg some AZ)⟩,
 f50:=⟨Tryz.f404.name,by decide,Tryz.func404.trans (congrArg some AZ)⟩,
 f57:=⟨Tryz.f414.name,by decide,Tryz.func414.trans (congrArg some AZ)⟩,
 t0:=Tryz.underlying0,
 a0:=Tryz.isAgg0,
 z0:=Tryz.sizeOf0,
 v0:=Tryz.zeroValue0,
 t3:=Tryz.underlying3,
 a3:=Tryz.isAgg3,
 z3:=Tryz.sizeOf3,
 v3:=Tryz.zeroValue3,
 t4:=Tryz.underlying4,
 a4:=Tryz.isAgg4,
 z4:=Tryz.sizeOf4,
 v4:=Tryz.zeroValue4,
 t5:=Tryz.underlying5,
 a5:=Tryz.isAgg5,
 z5:=Tryz.sizeOf5,
 v5:=Tryz.zeroValue5,
 t9:=Tryz.underlying9,
 a9:=Tryz.isAgg9,
 z9:=Tryz.sizeOf9,
 v9:=Tryz.zeroValue9,
 t22:=Tryz.underlying84,
 a22:=Tryz.isAgg84,
 z22:=Tryz.sizeOf84,
 v22:=Tryz.zeroValue84,
 t25:=Tryz.underlying326,
 a25:=Tryz.isAgg326,
 z25:=Tryz.sizeOf326,
 v25:=Tryz.zeroValue326,
 t39:=Tryz.underlying344,
 a39:=Tryz.isAgg344,
 z39:=Tryz.sizeOf344,
 v39:=Tryz.zeroValue344,
 t45:=Tryz.underlying357,
 a45:=Tryz.isAgg357,
 z45:=Tryz.sizeOf357,
 v45:=Tryz.zeroValue357,
 t46:=Tryz.underlying358,
 a46:=Tryz.isAgg358,
 z46:=Tryz.sizeOf358,
 v46:=Tryz.zeroValue358,
 t50:=Tryz.underlying135,
 a50:=Tryz.isAgg135,
 z50:=Tryz.sizeOf135,
 v50:=Tryz.zeroValue135,
 t53:=Tryz.underlying364,
 a53:=Tryz.isAgg364,
 z53:=Tryz.sizeOf364,
 v53:=Tryz.zeroValue364,
 t55:=Tryz.underlying366,
 a55:=Tryz.isAgg366,
 z55:=Tryz.sizeOf366,
 v55:=Tryz.zeroValue366,
 t66:=Tryz.underlying379,
 a66:=Tryz.isAgg379,
 z66:=Tryz.sizeOf379,
 v66:=Tryz.zeroValue379,
 t70:=Tryz.underlying281,
 a70:=Tryz.isAgg281,
 z70:=Tryz.sizeOf281,
 v70:=Tryz.zeroValue281,
 t76:=Tryz.underlying388,
 a76:=Tryz.isAgg388,
 z76:=Tryz.sizeOf388,
 v76:=Tryz.zeroValue388,
 t77:=Tryz.underlying389,
 a77:=Tryz.isAgg389,
 z77:=Tryz.sizeOf389,
 v77:=Tryz.zeroValue389 }
def ABL:Go.Shelf.Ren:=⟨fun|5=>298|7=>329|n=>n,fun|22=>3|3=>3|4=>4|n=>n,fun|n=>n⟩
theorem ATF:Go.Proofs.SlLaysC2.n5 jA ABL := {
 mixed:=AZ,
 f5:=⟨Tryz.f298.name,by decide,Tryz.func298.trans (congrArg some AZ)⟩,
 f7:=⟨Tryz.f329.name,by decide,Tryz.func329.trans (congrArg some AZ)⟩,
 t3:=Tryz.underlying3,
 a3:=Tryz.isAgg3,
 z3:=Tryz.sizeOf3,
 v3:=Tryz.zeroValue3,
 t4:=Tryz.underlying4,
 a4:=Tryz.isAgg4,
 z4:=Tryz.sizeOf4,
 v4:=Tryz.zeroValue4,
 t22:=Tryz.underlying3,
 a22:=Tryz.isAgg3,
 z22:=Tryz.sizeOf3,
 v22:=Tryz.zeroValue3 }
def encV (x:Rng):List Value:=[.int .i64 x.lo,.int .i64 x.hi]
instance:Inhabited Rng:=⟨⟨0,0⟩⟩
theorem AKS (x y:Rng)(W:World):Calls jA 297 #[.agg #[.int .i64 x.lo,.int .i64 x.hi],.agg #[.int .i64 y.lo,.int .i64 y.hi]] W fun e w'=>e=.returned (.int .i64 (Lib.compareInt x.lo y.lo))∧∃q os',w'=grow (W.drewN q) os':=by
 have hcon:=fun W'=>AnyG.cmp_Compare_int ATF x.lo y.lo W'
 change ∀W',Calls jA 298 _ _ _ at hcon
 generalize Lib.compareInt x.lo y.lo=r at hcon|-
 go_enter Tryz.func297,Tryz.ntmps297
 go_wp2_with (go_at_call 298; refine(hcon _).mono ?_; rintro e w' ⟨rfl,rfl⟩)
 go_ret
 exact⟨rfl,0,_,by rw[alloc_eq_grow,alloc_eq_grow,grow_grow]; rfl⟩
theorem AKR (blk off size:Nat)(w:World):CmpLays jA 297 #[] encV 2 (fun x y=>Lib.compareInt x.lo y.lo) blk off size w :=
 fun _ _ _ _ x y=>AKS x y _
theorem ltLo (x y:Rng):ltOf (fun x y:Rng=>Lib.compareInt x.lo y.lo) x y=decide (x.lo<y.lo):=by
 unfold ltOf Lib.compareInt;by_cases h1:x.lo<y.lo
 .simp [h1]
 .by_cases h2:y.lo<x.lo<;>simp [h1,h2]
theorem swoLo:SWO (ltOf fun x y:Rng=>Lib.compareInt x.lo y.lo) where
 irrefl x:=by rw[ltLo]; simp
 trans x y z h1 h2:=by rw[ltLo] at *; simp at *; omega
 ntrans x y z h1 h2:=by rw[ltLo] at *; simp at *; omega
theorem encV_len (x:Rng):(encV x).length=2:=rfl
theorem AA3 (x:Rng)(j:Nat)(a:AV)(h:(encR x)[j]?=some a)(g:Gh):∃v,(encV x)[j]?=some v∧(encV x)[j]! = v∧Rep g a v∧∀v',Rep g a v'->v'=v:=by
 match j,h with
 | 0,h=>simp [encR] at h; subst h; exact⟨_,rfl,rfl,.int _ _ _,fun v' hv=>hv.int_inv⟩
 | 1,h=>simp [encR] at h; subst h; exact⟨_,rfl,rfl,.int _ _ _,fun v' hv=>hv.int_inv⟩
 | n+2,h=>simp [encR] at h
theorem vX:∀args w,(callFunc 297 args).run jA w=.ok (.enter 297 args) w:=enters_of Tryz.func297 AZ rfl
theorem AS6 {t n:Nat}(h:t<n*2):t/2<n:=U
theorem AQY (xs:List Rng)(b:Nat)(tail:List (List AV))(h0 h:Hp)(hl:xs.length<=16777216)(he:ext h0 h)(hb0:h0.length<=b)(hb:h[b]?=some (qF 2 (xs.map encR++tail))):
  ACalls (En G) 296 [.own b 0 xs.length,.fn (.func 297) [] []] h fun _ H=>ext h0 H∧∃ys:List Rng,ys.Perm xs∧ys.Pairwise (fun a b=>a.lo<=b.lo)∧H[b]?=some (qF 2 (ys.map encR++tail)):=by
 refine⟨cok 296 G AZ,fun g w cargs S ha=>?_⟩;obtain⟨hsz,hget⟩:=ha
 obtain⟨cv0,cv1,rfl⟩:∃a b,cargs = #[a,b]:=by
  obtain⟨l⟩:=cargs
  match l,hsz with
  | [a,b],_=>exact⟨a,b,rfl⟩
 have r0:=hget 0 _ cv0 rfl rfl;have r1:=hget 1 _ cv1 rfl rfl;obtain⟨f1,f2,rfl,q1,q2,_⟩:=r1.fn_inv;obtain rfl:f1 = #[]:=Array.eq_empty_of_size_eq_zero (BL q1);obtain rfl:f2 = #[]:=Array.eq_empty_of_size_eq_zero (BL q2)
 have none_case:∀(p:Option Addr) (cap:Nat),xs=[]->Calls jA 296 #[.slice p 0 cap,.func (.func 297) #[] #[]] w fun e w'=>∃v cv g' h',e=.returned cv∧(ext h0 h'∧∃ys:List Rng,ys.Perm xs∧ys.Pairwise (fun a b=>a.lo<=b.lo)∧h'[b]?=some (qF 2 (ys.map encR++tail)))∧g.le g'∧SimH (En G) g' h' w'∧Rep g' v cv:=by
  intro p cap hx;have hcon:=AnyF.slices_SortFunc_none AL8 p cap (.func (.func 297) #[] #[]) w;change Calls jA 296 _ _ _ at hcon;refine hcon.mono ?_;rintro e w' ⟨rfl,rfl⟩;exact⟨.tup [],_,g,h,rfl,⟨he,xs,.refl _,by rw[hx]; exact .nil,hb⟩,Gh.le.refl g,S,Rep.undef g⟩
 rcases r0.own_inv with⟨l,cap,hl0,hlc,hsp,rfl⟩|⟨hn,a,rfl⟩
 case inr =>
  have hx:xs=[]:=List.length_eq_zero_iff.1 hn;have:=none_case (some a) 0 hx;exact this.mono fun _ _ q=>.inl q
 obtain⟨l',c,ety,p1,p2,p3,p4,p5,p6,p7,p8⟩:=S.live b 2 _ hb;rw[hl0] at p1; cases p1;obtain⟨cb,co,k,sz⟩:=l;simp only at p2 p3 p4 p5 p6 p8 hsp;subst p2;simp only[Nat.zero_mul,Nat.add_zero]
 have hblk:cb<w.heap.size:=by
  have:=(Array.getElem?_eq_some_iff.1 p4).1; exact this
 -- the row's cells
 have hcell:∀t,t<xs.length*2->c[co+t]?=some ((encV (xs.toArray[t/2]!))[t%2]!):=by
  intro t ht;have hi:=AS6 ht;have e1:(xs.map encR++tail)[t/2]?=some (encR xs[t/2]):=by rw[qH (BL hi)]; exact row_map hi
  have hj:t%2<2:=Nat.mod_lt _ DK;have e2:(encR xs[t/2])[t%2]?=some ((encR xs[t/2])[t%2]'hj):=List.getElem?_eq_getElem _;obtain⟨cv,s1,s2⟩:=p8 (t/2) (t%2) _ _ e1 e2;obtain⟨v,_,t2,_,t4⟩:=AA3 _ _ _ e2 g;rw[show co+t/2*2+t%2=co+t by omega] at s1;rw[s1,t4 cv s2];have:xs.toArray[t/2]! = xs[t/2]:=by simp [hi]
  rw[this,t2]
 have hH:HoldsK encV 2 w cb co xs.toArray:=by
  intro t ht;simp only[size_flatK,List.size_toArray] at ht;refine⟨?_,?_⟩
  .rw[get_flatK _ _ _ _ (BL ht)]
   simp only[World.cell?,p4];exact hcell t ht
  .simp [World.frozen?,p4]
 have hcon:=AnyQ.slices_SortFunc AL8 2 Tryz.isAgg145 Tryz.sizeOf145 encV encV_len (fun x v hv=>by simp [encV] at hv; rcases hv with rfl|rfl<;>rfl) (fun x y=>Lib.compareInt x.lo y.lo) swoLo 297 #[] cb co cap xs.toArray w
  vX (AKR cb co _ w) hH hblk MS
 simp only[List.size_toArray] at hcon;change Calls jA 296 _ _ _ at hcon;refine hcon.mono ?_;rintro e w' ⟨rfl,d',m,os,hp,hs,rfl⟩;have hds:d'.size=xs.length:=by simpa using hp.1
 have hperm:d'.toList.Perm xs:=by
  have:=hp.2.2;simpa [Array.extract_eq_self_of_le,hds] using this
 have hpw:d'.toList.Pairwise (fun a b=>a.lo<=b.lo):=by
  rw[List.pairwise_iff_getElem];intro i j hi hj hij;have:=hs i j (Nat.zero_le _) hij (by simpa [hds] using hj);rw[ltLo] at this;simp at hi hj;rw[getElem!_pos d' i hi,getElem!_pos d' j hj] at this;simpa using this
 -- the written world
 have hw1:Wrote w (putRowK encV 2 (Sort.ahead w m) cb co d') cb ety c (putCells id co (flatK encV 2 d') c) co (flatK encV 2 d').toList:=by
  refine⟨rfl,rfl,rfl,?_,?_,?_,?_⟩
  .show(w.heap.modify cb _)[cb]?=_
   rw[Array.getElem?_modify,if_pos rfl,p4];rfl
  .simp [putCells]
  .intro j
   simp only[putCells,Array.getElem?_mapIdx,Array.length_toList];rcases jZ j c.size with hj|hj
   .rw[Array.getElem?_eq_getElem hj]
    simp only[Option.map_some];split
    .rename_i hh
     rw[Array.getElem?_toList,Array.getElem?_eq_getElem U,getElem!_pos _ _ U];rfl
    .rfl
   .rw[Array.getElem?_eq_none hj,if_neg ?_]
    .rfl
    .simp only[size_flatK,hds]
     have:co+xs.length*2<=c.size:=by
      rw[p5]; simp only[jS,jL] at p6; omega
     omega
  .intro k hk
   show(w.heap.modify cb _)[k]?=_;rw[Array.getElem?_modify,if_neg (fun e=>hk e.symm)]
 have hrows:O5 g (putCells id co (flatK encV 2 d') c) co 2 (d'.toList.map encR++tail):=by
  refine⟨?_,?_,?_⟩
  .have:(putCells id co (flatK encV 2 d') c).size=c.size:=hw1.size
   rw[this,p5]
   simp only[jS,jL,Array.length_toList,hds] at p6|-
   exact p6
  .intro i row hrow
   rcases jZ i xs.length with hi|hi
   .rw[qH (by simpa [hds] using hi),List.getElem?_map,Option.map_eq_some_iff] at hrow
    obtain⟨x,_,rfl⟩:=hrow;refine⟨rfl,fun j v hv=>?_⟩
    match j,hv with
    | 0,hv=>simp [encR] at hv; subst hv; rfl
    | 1,hv=>simp [encR] at hv; subst hv; rfl
    | n+2,hv=>simp [encR] at hv
   .rw[List.getElem?_append_right (by simpa [hds] using hi)] at hrow
    refine p7 i row ?_;rw[List.getElem?_append_right (BL hi)];simpa [hds] using hrow
  .intro i j row v hrow hv
   rw[hw1.cells];rcases jZ i xs.length with hi|hi
   .have hi':i<d'.toList.length:=by simpa [hds] using hi
    rw[qH (by simpa using hi'),row_map hi'] at hrow;cases hrow;have hj:j<2:=(List.getElem?_eq_some_iff.1 hv).1;obtain⟨v',t1,t2,t3,_⟩:=AA3 _ _ _ hv g;refine⟨v',?_,t3⟩;have hlt:i*2+j<d'.size*2:=U;rw[if_pos (by simp only[Array.length_toList,size_flatK]; omega),show co+i*2+j-co=i*2+j by omega,Array.getElem?_toList,Array.getElem?_eq_getElem (BL hlt)];rw[<-getElem!_pos,get_flatK _ _ _ _ hlt,show(i*2+j)/2=i by omega,show(i*2+j)%2=j by omega];rw[getElem!_pos d' i U];rw[show d'[i]=d'.toList[i] by simp,t2]
   .rw[if_neg (by simp only[Array.length_toList,size_flatK,hds]; omega)]
    rw[List.getElem?_append_right (by simpa [hds] using hi)] at hrow;refine p8 i j row v ?_ hv;rw[List.getElem?_append_right (BL hi)];simpa [hds] using hrow
 have S1:=S.write hb hl0 hw1 p5 hrows
 have S2:SimH (En G) g (h.set b (qF 2 (d'.toList.map encR++tail))) (sortWorldK encV 2 w cb co m d' os):=by
  refine S1.world rfl rfl rfl fun k hk=>?_
  show((putRowK encV 2 (Sort.ahead w m) cb co d').heap++os)[k]?=_;rcases jZ k (putRowK encV 2 (Sort.ahead w m) cb co d').heap.size with hlt|hge
  .rw[Array.getElem?_append_left hlt]
  .exfalso
   obtain⟨u1,u2⟩:=S1.unowned_new hge;rcases hk with⟨o,ho⟩|hk
   .rw[u2] at ho; cases ho
   .exact hk u1
 refine .inl ⟨.tup [],_,g,_,rfl,⟨he.set hb0 _,d'.toList,hperm,hpw,CQ hb⟩,Gh.le.refl g,S2,Rep.undef g⟩
theorem AL9 (m:SM)(k:Nat)(h:Hp):PCall (En G) 296 [.sl m k [],.fn (.func 297) [] []] h (.tup []):=by
 refine⟨cok 296 G AZ,fun g w cargs S ha=>?_⟩;obtain⟨hsz,hget⟩:=ha
 obtain⟨cv0,cv1,rfl⟩:∃a b,cargs = #[a,b]:=by
  obtain⟨l⟩:=cargs
  match l,hsz with
  | [a,b],_=>exact⟨a,b,rfl⟩
 have r0:=(hget 0 _ cv0 rfl rfl).sl_inv;have r1:=hget 1 _ cv1 rfl rfl;obtain⟨f1,f2,rfl,q1,q2,_⟩:=r1.fn_inv;obtain rfl:f1 = #[]:=Array.eq_empty_of_size_eq_zero (BL q1);obtain rfl:f2 = #[]:=Array.eq_empty_of_size_eq_zero (BL q2)
 have none_case:∀(p:Option Addr) (cap:Nat),Calls jA 296 #[.slice p 0 cap,.func (.func 297) #[] #[]] w fun e w'=>∃v cv g' h',e=.returned cv∧(v=.tup []∧h'=h)∧g.le g'∧SimH (En G) g' h' w'∧Rep g' v cv:=by
  intro p cap;have hcon:=AnyF.slices_SortFunc_none AL8 p cap (.func (.func 297) #[] #[]) w;change Calls jA 296 _ _ _ at hcon;refine hcon.mono ?_;rintro e w' ⟨rfl,rfl⟩;exact⟨.tup [],_,g,h,rfl,⟨rfl,rfl⟩,Gh.le.refl g,S,Rep.undef g⟩
 generalize hx:AV.sl m k []=v at r0
 cases r0<;>first|(cases hx; done)|skip
 .exact(none_case _ _).mono fun _ _ q=>.inl q
 .exact(none_case _ _).mono fun _ _ q=>.inl q
 .rename_i hne _ _ _ _ _ _ _
  cases hx; exact absurd rfl hne
theorem AV1:SortOk G:=⟨fun xs b tail h0 h hl he hb0 hb=>AQY G xs b tail h0 h hl he hb0 hb,fun m k h=>AL9 G m k h⟩
theorem sR (xs:List Rng)(m:SM)(h:Hp)(hl:xs.length<=8388608):PCall (En G) 245 [.sl m 2 (xs.map encR)] h (.sl (nm (normal xs)) 2 ((normal xs).map encR)):=yN G (AV1 G) xs m h hl
end Go.Proofs.YtiihpnicbekebaaGreatDoor.Bins
namespace Go.Proofs.YtiihpnicbekebaaGreatDoor.Ho
open Sm Bins Cov Go.RowKit
def orE (a b:Ex):Ex:=.mk 20 0 ⟨#[]⟩ .full [a,b]
def AM4 (e:Ex)(l:List Rng):Nat->Nat->Ex->Ex
 | 0,_,out=>out
 | f+1,i,out=>if i<l.length then AM4 e l f (i+16) (orE out (JI e ((l.drop i).take (min l.length (i+16)-i)))) else out
def sZ (e:Ex)(l:List Rng):Ex:=AM4 e l l.length 16 (JI e (l.take (min l.length 16)))
theorem dZ (h:Hp)(a b:Ex):C9 jA false h 23 2 [(0,.agg (AY a)),(1,.agg (AY b))]=some (.sl .full 4 [AY a,AY b],h):=by
 rw[EY a,EY b];generalize a.args.map AY=xs;generalize b.args.map AY=ys
 kernel_rfl
theorem AVD (xs:List (List AV)):IR jA 79 [(0,.n 20),(3,.sl .full 4 xs)]=some (.agg [.n 20,.n 0,.str ⟨#[]⟩,.sl .full 4 xs]):=AZ
theorem AGD (a b:Ex):AY (orE a b)=[.n 20,.n 0,.str ⟨#[]⟩,.sl .full 4 [AY a,AY b]]:=by rw[EY]; rfl
theorem kI (xs:List Rng):(normal xs).length<=xs.length:=by
 unfold normal bE;have h1:=dD ((xs.filter full).mergeSort AKU) [];have h2:=List.length_filter_le full xs;rw[List.length_mergeSort] at h1;simp only[List.length_nil,Nat.zero_add] at h1;omega
theorem O6 {H:Hp}{b:Nat}{e:Ex}(hb:H[b]?=some (qF 4 [AY e])):BO jA H 79 (.ptr b 0 0)=some (.agg (AY e)):=KY hb (EF e)
theorem QH {H:Hp}{b:Nat}{row:List AV}{e:Ex}(hb:H[b]?=some (qF 4 [row]))(hr:row.length=4):DX jA H 79 (.ptr b 0 0) (.agg (AY e))=some (H.set b (qF 4 [AY e])):=VQ hb hr (EF e) (UF e)
end Go.Proofs.YtiihpnicbekebaaGreatDoor.Ho
namespace Go.Proofs.YtiihpnicbekebaaGreatDoor.Ho
open Sm Bins Cov Wd Xe Go.RowKit
structure Xs where
 m:SM
 l:List Ex
def AU4 (x:Xs):List AV:=[.sl x.m 4 (x.l.map AY)]
end Go.Proofs.YtiihpnicbekebaaGreatDoor.Ho
namespace Go.Proofs.YtiihpnicbekebaaGreatDoor.Ho
open Sm Bins Cov Go.RowKit
section
variable (G:Nat->AV)
theorem yC (m:Mo)(x:Hl)(hc:x.cross=true)(i:Nat)(hi:i<m.crs.length)(hz:x.idx=(i:Int))(h:Hp):PCall (En G) 94 [.agg (CZ m),.agg (EZ x)] h (.sl m.crs[i].pm 1 (m.crs[i].pts.map qencI)):=by
 refine ACalls.pure0 rfl ?_;refine acT Tryz.func94 4 ?_;have t:=Hb.mk' h m x;refine AQ @bxM @bxH ?_
 generalize h++[qF 2 [CZ m]]++[qF 3 [EZ x]]=H at t|-
 generalize (h++[qF 2 [CZ m]]).length=hb at t|-
 have l0:=AWL t.gh;have l1:=ANK t.gh;rw[hc] at l0;rw[hz] at l1;simp -implicitDefEqProofs only[vQ,N7,NK,CJ,↓reduceIte,Nat.reduceEqDiff,Nat.zero_add,Option.getD_some,bNf,enP,WV,OW,dM,OA,l0,l1,sW t.gm,CG hi,BP MO hi,fB];exact⟨A7,t.hx⟩
theorem yB (m:Mo)(x:Hl)(hc:x.cross=false)(h:Hp):PCall (En G) 94 [.agg (CZ m),.agg (EZ x)] h (.sl .full 1 ([x.idx].map qencI)):=by
 refine ACalls.pure0 rfl ?_;refine acT Tryz.func94 4 ?_;have t:=Hb.mk' h m x;refine AQ @bxM @bxH ?_
 generalize h++[qF 2 [CZ m]]++[qF 3 [EZ x]]=H at t|-
 generalize (h++[qF 2 [CZ m]]).length=hb at t|-
 have l0:=AWL t.gh;rw[hc] at l0;refine DI l0 (ANK t.gh) AER ?_;exact⟨A7,t.hx⟩
end
end Go.Proofs.YtiihpnicbekebaaGreatDoor.Ho
namespace Go.Proofs.YtiihpnicbekebaaGreatDoor.Sm

theorem GSt.refl (E:Env)(h:Hp):GSt E h h:=fun g _ S=>⟨g,Gh.le.refl g,S⟩
theorem GSt.trans {E:Env}{a b c:Hp}(h1:GSt E a b)(h2:GSt E b c):GSt E a c:=fun g w S =>
 let ⟨g1,l1,S1⟩:=h1 g w S; let ⟨g2,l2,S2⟩:=h2 g1 w S1; ⟨g2,l1.trans l2,S2⟩
theorem GSt.kill (E:Env)(h:Hp)(b:Nat):GSt E h (h.set b .dead):=fun g _ S=>⟨g,Gh.le.refl g,S.kill b⟩
theorem GSt.frz {E:Env}{h:Hp}{b k i j o off len k':Nat}{xs ys:List (List AV)}{row:List AV}(hb:h[b]?=some (qF k xs))(hi:xs[i]?=some row)(hj:row[j]?=some (.own o off len))(ho:h[o]?=some (qF k' ys))
  (hne:o≠b) (hle:off+len<=ys.length) (hfz:ML ((ys.drop off).take len)=true) :
  GSt E h ((h.set o .dead).set b (qF k (xs.set i (row.set j (.sl .any k' ((ys.drop off).take len)))))):=by
 intro g w S;obtain⟨lo,co,eo,p1,p2,p3,p4,p5,p6,p7,p8⟩:=S.live o k' ys ho;have S1:=S.kill o;have u:=NP S ho A8 p1;have S2:=S1.freeze p4 p3 u;have hg:g.le (g.freeze lo.cb (.cells co eo (0,0))):=Gh.freeze_le p3;have hM:(g.freeze lo.cb (.cells co eo (0,0))).M lo.cb=some (.cells co eo (0,0)):=by simp [Gh.freeze]
 refine⟨_,hg,?_⟩
 generalize g.freeze lo.cb (.cells co eo (0,0))=g' at S2 hg hM|-
 obtain⟨l,c,e,q1,q2,q3,q4,q5,q6,q7,q8⟩:=S.live b k xs hb;have hb2:(h.set o .dead)[b]?=some (qF k xs):=by rw[List.getElem?_set_ne hne]; exact hb
 obtain⟨l',c',e',r1,r2,r3,r4,r5,r6,r7,r8⟩:=S2.live b k xs hb2;have hl:l=l':=by have:=hg.μ _ _ q1; rw[r1] at this; cases this; rfl
 subst hl;have hc:c=c':=by rw[q4] at r4; cases r4; rfl
 subst hc;simp only[ML,List.all_eq_true] at hfz
 have key:∀cv,Rep g (.own o off len) cv->Rep g' (.sl .any k' ((ys.drop off).take len)) cv:=by
  intro cv hr
  have:=ZJ (φ:=id) S ho p1 p4 hM hle hr (fun row hrow v hv=>by
   obtain⟨i,hi,rfl⟩:=qR hrow;obtain⟨j',hj',rfl⟩:=qR hv;refine⟨?_,fun cv hcv=>(AV.frozen_rep (hfz _ hrow _ hv) hcv).mono hg.M⟩;have:=hfz _ hrow _ hv
   revert this
   generalize (((ys.drop off).take len)[i])[j']=y;intro this
   cases y<;>simp_all [AV.frozen,AV.leaf])
  have hid:((ys.drop off).take len).map (·.map id)=(ys.drop off).take len:=by
   have:(fun x:List AV=>x.map id)=id:=by funext x; simp
   rw[this,List.map_id]
  rw[hid] at this;exact .fro this
 have S3:=S2.kill b;have u2:=NP S2 hb2 A8 r1;have:=S3.revive (xs:=xs.set i (row.set j (.sl .any k' ((ys.drop off).take len)))) r1 r4 r5 r3 u2 ?_
 .rw[List.set_set,r2] at this; exact this
 rw[r2]
 have hrw:∀(i':Nat) (row':List AV),(xs.set i (row.set j (.sl .any k' ((ys.drop off).take len))))[i']?=some row'->(i'=i∧row'=row.set j (.sl .any k' ((ys.drop off).take len)))∨(i'≠i∧xs[i']?=some row'):=by
  intro i' row' h';rw[zG] at h';split at h'
  .rename_i e1
   split at h'<;>simp at h';exact .inl ⟨e1.symm,h'.symm⟩
  .rename_i e1; exact .inr ⟨fun q=>e1 q.symm,h'⟩
 refine⟨by rw[qX,r5]; exact r6,?_,?_⟩
 .intro i' row' h'
  rcases hrw i' row' h' with⟨rfl,rfl⟩|⟨_,h2⟩
  .refine⟨by rw[qX]; exact(r7 _ _ hi).1,fun j' v hv=>?_⟩
   rw[zG] at hv;split at hv
   .split at hv<;>simp at hv
    subst hv; rfl
   .exact(r7 _ _ hi).2 j' v hv
  .exact r7 _ _ h2
 .intro i' j' row' v h' hv
  rcases hrw i' row' h' with⟨rfl,rfl⟩|⟨_,h2⟩
  .rw[zG] at hv
   split at hv
   .rename_i e1
    split at hv<;>simp at hv;subst hv; subst e1;obtain⟨cv,s1,s2⟩:=q8 _ _ _ _ hi hj;exact⟨cv,s1,key cv s2⟩
   .exact r8 _ _ _ _ hi hv
  .exact r8 _ _ _ _ h2 hv
end Go.Proofs.YtiihpnicbekebaaGreatDoor.Sm
namespace Go.Proofs.YtiihpnicbekebaaGreatDoor.Ho
open Sm Bins Cov Go.RowKit
variable {k:Nat} {H h:Hp} {v:AV}
theorem knP (E:Env)(g:Gh):(E.know g).P=E.P:=rfl
theorem knG (E:Env)(g:Gh):(E.know g).G=E.G:=rfl
def pN (m:SM):SM:=match m with|.nil=>.nil|_=>.full
theorem A2T {P:Program}{t e:TypeId}(hu:P.underlying t=some (.slice e))(hs:szO P e=some k){m:SM}{xs:List (List AV)}{l u:Nat}(h1:l<=u)(h2:u<=xs.length):
  IQ P h t (.sl m k xs) (some (.n (l:Int))) (some (.n (u:Int))) (some (.n (u:Int)))=some (.sl (pN m) k ((xs.drop l).take (u-l))):=by
 have b1:GZ (some (.n (u:Int))) (some xs.length)=some u:=by simp [GZ]
 have b2:GZ (some (.n (l:Int))) (some 0)=some l:=by simp [GZ]
 have b3:GZ (some (.n (u:Int))) none=some u:=by simp [GZ]
 simp only[IQ,hu,b1,b2,b3,hs,true_and];rw[if_pos ⟨h1,jF _,h2,rfl⟩];cases m<;>simp [pN]
def part (L:List Rng)(k:Nat):List Rng:=(L.drop (16*k)).take 16
def parts (L:List Rng):Nat:=(L.length+15)/16
theorem AEN (G:Nat->AV)(L:List Rng)(m:SM)(hl:L.length<=1048576)(b2 b3:Nat)(I:Nat->Hp->Prop)(hI:∀k h,I k h->h[b2]?=some (qF 1 [[.sl m 2 (L.map encR)]])∧h[b3]?=some (qF 1 [[.n 16]])):
  Iter (En G) 292 [.ptr b2 0 0,.ptr b3 0 0] (parts L) (fun k=>[.sl (pN m) 2 ((part L k).map encR)]) I:=by
 intro l g0 hY h h0;refine J7 (H:=Hint.none) (enM G) Tryz.func292 rfl (by kernel_rfl) (by kernel_rfl) (jB (by kernel_rfl)) ?_;show awp _ _ _ _ _ (NU _ [] _);refine AQ @knP @knG ?_
 refine BB (fun n F H=>∃k,n+k=parts L∧F 0=.fn (.yield l) [] []∧F 1=.ptr b2 0 0∧F 2=.ptr b3 0 0∧F 4=.n ((16*k:Nat):Int)∧I k H) (parts L)
  ⟨0,A8,AC,AC,AC,AC,h0⟩ ?_
 rintro n F H ⟨k,hk,f0,f1,f2,f4,hIk⟩;obtain⟨g2,g3⟩:=hI k H hIk;have l2:BO jA H 84 (.ptr b2 0 0)=some (.sl m 2 (L.map encR)):=by rw[BH QX g2 (row:=[.sl m 2 (L.map encR)]) rfl]; rfl
 have l3:BO jA H 3 (.ptr b3 0 0)=some (.n 16):=by rw[BH ag3 g3 (row:=[.n 16]) rfl]; rfl
 have hp:parts L=(L.length+15)/16:=rfl;refine JL @knP @knG f1 f4 l2 ?_;refine DU ?_ ?_<;>intro hk'
 .have hkn:k<parts L:=U
  have hs1:IQ jA H 84 (.sl m 2 (L.map encR)) (some (.n ((16*k:Nat):Int))) none none=some (.sl m 2 ((L.drop (16*k)).map encR)):=by
   rw[sH ZA MJ MS,List.map_drop]
  have hw1:IntKind.i64.wrap (((16*k:Nat):Int)+((min 16 (L.length-16*k):Nat):Int))=((16*k+min 16 (L.length-16*k):Nat):Int):=by rw[wrap_i64 U U]; omega
  have hw2:IntKind.i64.wrap (((16*k:Nat):Int)+16)=((16*(k+1):Nat):Int):=by rw[wrap_i64 U U]; omega
  have hs2:IQ jA H 84 (.sl m 2 (L.map encR)) (some (.n ((16*k:Nat):Int))) (some (.n ((16*k+min 16 (L.length-16*k):Nat):Int))) (some (.n ((16*k+min 16 (L.length-16*k):Nat):Int)))=some (.sl (pN m) 2 ((part L k).map encR)):=by
   rw[A2T ZA MJ U MS,<-List.map_drop,<-List.map_take]
   have e:(L.drop (16*k)).take (16*k+min 16 (L.length-16*k)-16*k)=part L k:=by
    unfold part;rw[List.take_eq_take_iff,List.length_drop];omega
   rw[e]
  refine AQ @knP @knG ?_;refine DJ AZ ?_;simp -implicitDefEqProofs only[vQ,Option.map_some,Option.map_none,LQ,aI,IL,CJ,UR,ALM,ADN,↓reduceIte,jC,jP,enP,kO,knP,knG,f1,f2,f4,l2,l3,hs1,jL,List.length_drop];have hm16:min (16:Int) ((L.length-16*k:Nat):Int)=((min 16 (L.length-16*k):Nat):Int):=U;simp -implicitDefEqProofs only[vQ,CJ,ATN,↓reduceIte,jC,knP,knG,hm16,f0,f1,f2,f4,l2,hw1,hs2];refine(hY k H hkn hIk).mono ?_;rintro v h' ⟨rfl,hI'⟩;obtain⟨g2',g3'⟩:=hI (k+1) h' hI';have l3':BO jA h' 3 (.ptr b3 0 0)=some (.n 16):=by rw[BH ag3 g3' (row:=[.n 16]) rfl]; rfl
  refine MR @knP @knG f2 f4 l3' hw2 ?_;exact⟨n-1,U,k+1,U,A7,A7,A7,A7,hI'⟩
 .have:k=parts L:=U
  subst this;refine DI @lG @knP @knG ?_;exact hIk
theorem AEM (G:Nat->AV)(s:AV)(hs:IB s=some [s])(h:Hp):ACalls (En G) 244 [s,.n 16] h fun v h'=>v=.fn (.func 292) [] [.ptr h.length 0 0,.ptr (h.length+1) 0 0]∧h'=h++[qF 1 [[s]]]++[qF 1 [[.n 16]]]:=by
 refine acT Tryz.func244 4 ?_;have hb:MP h s=some (.ptr h.length 0 0,h++[qF 1 [[s]]]):=by simp [MP,hs]
 have l3:BO jA (h++[qF 1 [[s]]]++[qF 1 [[.n 16]]]) 3 (.ptr (h++[qF 1 [[s]]]).length 0 0)=some (.n 16):=by rw[BH ag3 (AX _ _) (row:=[.n 16]) rfl]; rfl
 have d16:decide ((16:Int)<1)=false:=rfl;refine JL @ATR @APW hb l3 d16 ?_;exact⟨A8,A7⟩
def cEs (l:List Rng):List Ex:=l.flatMap fun r=>[cE r.lo,cE r.hi]
def insL (e:Ex)(l:List Rng):List Ex:=e::cEs l
theorem XK (a:Rng)(l:List Rng):cEs (a::l)=cE a.lo::cE a.hi::cEs l:=rfl
theorem yY:∀l:List Rng,(ASC l).map AZS=cEs l
 | []=>rfl
 | a::l=>by rw[AJX,XK,jK,jK,yY l]; rfl
theorem YA (e:Ex)(l:List Rng):JI e l=.mk 23 0 ⟨#[]⟩ .any (insL e l):=by
 unfold JI AUX insL;rw[jK,yY]; rfl
theorem ABT {l:List Rng}(hk:k<l.length):cEs (l.take (k+1))=cEs (l.take k)++[cE l[k].lo,cE l[k].hi]:=by
 unfold cEs;rw[List.take_succ_eq_append_getElem hk,List.flatMap_append]; rfl
theorem hU:∀l:List Rng,(cEs l).length=2*l.length
 | []=>rfl
 | a::l=>by rw[XK,zH,zH,hU l,zH]; omega
def nodes (e:Ex)(L:List Rng)(k:Nat):List Ex:=(List.range k).map fun i=>JI e (part L i)
theorem KU (e:Ex)(L:List Rng)(k:Nat):(nodes e L k).length=k:=by simp [nodes]
theorem kJ (e:Ex)(L:List Rng)(k:Nat):nodes e L (k+1)=nodes e L k++[JI e (part L k)]:=by simp [nodes,List.range_succ]
theorem AJL (e:Ex)(L:List Rng)(k i:Nat)(h:i<(nodes e L k).length):(nodes e L k)[i]=JI e (part L i):=by simp [nodes]
def OG (e:Ex)(L:List Rng):Nat->Ex
 | 0=>JI e (part L 0)
 | k+1=>orE (OG e L k) (JI e (part L (k+1)))
def RH (e:Ex)(L:List Rng):Ex:=if L=[] then cE 0 else sZ (cpE e) L
theorem parts_eq (L:List Rng):parts L=(L.length+15)/16:=rfl
theorem yD (L:List Rng)(i:Nat):(L.drop (16*i)).take (min L.length (16*i+16)-16*i)=part L i:=by
 unfold part;rw[List.take_eq_take_iff,List.length_drop];omega
theorem pA (e:Ex)(L:List Rng):∀(n k:Nat),L.length<=16*(k+1)+n->k<parts L->AM4 e L n (16*(k+1)) (OG e L k)=OG e L (parts L-1)
 | 0,k,h,hk=>by
   have hp:=parts_eq L;have:parts L-1=k:=U;rw[this]; rfl
 | n+1,k,h,hk=>by
   have hp:=parts_eq L;show(if 16*(k+1)<L.length then _ else _)=_;by_cases hc:16*(k+1)<L.length
   .rw[if_pos hc,yD]
    exact pA e L n (k+1) U U
   .rw[if_neg hc]
    have:parts L-1=k:=U;rw[this]
theorem yZ (e:Ex)(L:List Rng)(h:L≠[]):sZ e L=OG e L (parts L-1):=by
 have hl:0<L.length:=qQ.2 h;have hp:=parts_eq L;unfold sZ;have:=pA e L L.length 0 U U
 have h0:JI e (L.take (min L.length 16))=OG e L 0:=by
  show _=JI e (part L 0);have:=yD L 0;simp only[Nat.mul_zero,jG,Nat.sub_zero,zM] at this;rw[<-this]
 rw[h0]; exact this
theorem eX (e:Ex)(L:List Rng)(h:L≠[]):RH e L=OG (cpE e) L (parts L-1):=by
 unfold RH; rw[if_neg h,yZ _ _ h]
theorem AVT (F:Fr)(p:Nat)(ps:List Nat)(v:AV)(vs:List AV):rZ F (p::ps) (v::vs)=rZ (upd F p v) ps vs:=rfl
theorem AVS (F:Fr)(vs:List AV):rZ F [] vs=F:=by cases vs<;>rfl
theorem A3V (h:Hp):F9 jA h 23=some (.ptr h.length 0 0,h++[qF 1 [[.sl .nil 0 []]]]):=FC (row:=[.sl .nil 0 []]) AZ
abbrev EQ:List AV:=[.n 0,.n 0,.str ⟨#[]⟩,.sl .nil 0 []]
structure Ic (h hb H:Hp) (e:Ex) (L:List Rng) (m:SM) (b4 b5 c2 c3 k:Nat) (v:AV):Prop where
 ge:H[h.length]?=some (qF 4 [AY e])
 g4:H[b4]?=some (qF 4 [EQ])
 g5:H[b5]?=some (qF 1 [[v]])
 g2:H[c2]?=some (qF 1 [[.sl m 2 (L.map encR)]])
 g3:H[c3]?=some (qF 1 [[.n 16]])
 ho:outG 4 AY hb (nodes (cpE e) L k) v H
 hx:ext h H
 hy:hb.length<=H.length
structure In (hb H1 H:Hp) (e:Ex) (l:List Rng) (b7:Nat) (v:AV):Prop where
 g7:H[b7]?=some (qF 4 [[.n 23,.n 0,.str ⟨#[]⟩,v]])
 ho:outG 4 AY H1 (insL e l) v H
 hx:ext H1 H
 ne:∀b,isB v b->b≠b7
theorem ARI {α:Type}{f:α->List AV}{ys:List α}(ho:outG k f h ys v H):outG k id h (ys.map f) v H:=by
 rcases ho with⟨rfl,rfl⟩|⟨hne,o,h2,rfl,h3⟩
 .exact .inl ⟨rfl,rfl⟩
 .exact .inr ⟨BL hne,o,h2,by rw[jL],by rw[List.map_id]; exact h3⟩
theorem AU7 (h:Hp):C9 jA false h 23 1 [(0,.agg EQ)]=some (.sl .full 4 [EQ],h):=AZ
theorem A1F:V4 (Value.agg #[.int .i64 0,.int .i64 0,.string ⟨#[]⟩,.slice none 0 0])=.agg EQ:=rfl
theorem XM (l:List Ex):ML (l.map AY)=true:=by
 unfold ML;rw[List.all_eq_true];intro row hr;obtain⟨x,_,rfl⟩:=List.mem_map.1 hr;rw[EY]; rfl
theorem outG_ext {α:Type}{f:α->List AV}{H':Hp}{ys:List α}(ho:outG k f h ys v H)(hx:Sm.ext H H'):outG k f h ys v H':=by
 obtain⟨x,rfl⟩:=hx; exact ho.app x
theorem Ic.ext {hb H':Hp}{e:Ex}{L:List Rng}{m:SM}{b4 b5 c2 c3:Nat}(I:Ic h hb H e L m b4 b5 c2 c3 k v)(hx:Sm.ext H H'):Ic h hb H' e L m b4 b5 c2 c3 k v :=
 ⟨EJ hx I.ge,EJ hx I.g4,EJ hx I.g5,EJ hx I.g2,EJ hx I.g3,outG_ext I.ho hx,I.hx.trans hx,Nat.le_trans I.hy hx.le⟩
theorem zR (e:Ex)(l:List Rng):AY (JI e l)=[.n 23,.n 0,.str ⟨#[]⟩,.sl .any 4 ((insL e l).map AY)]:=by rw[YA,EY]; rfl
section
variable (G:Nat->AV)
theorem inside_prog (e:Ex)(xs:List Rng)(s:SM)(hl:xs.length<=1048576)(hw:wt e<=1048576)(h:Hp):PCall (En G) 168 [.agg (AY e),.sl s 2 (xs.map encR)] h (.agg (AY (RH e (normal xs)))):=by
 refine ACalls.pure (R:=fun v H=>Sm.ext h H∧FI h.length H 3 v=.agg (AY (RH e (normal xs)))) 3 ?_ (fun v H ⟨a,b⟩=>⟨a,b⟩);refine J7 (H:=hint [19,36,43] []) (enM G) Tryz.func168 rfl (by kernel_rfl) (by kernel_rfl) (jB (by kernel_rfl)) ?_;show awp _ _ _ _ _ (NU _ [.cell 4 79] _);have ge:=AL (x:=qF 1 [[.sl .nil 0 []]]) (AL (x:=qF 4 [EQ]) (AX h (qF 4 [AY e])));have g4:=AL (x:=qF 1 [[.sl .nil 0 []]]) (AX (h++[qF 4 [AY e]]) (qF 4 [EQ]));have g5:=AX (h++[qF 4 [AY e]]++[qF 4 [EQ]]) (qF 1 [[.sl .nil 0 []]]);have hx:Sm.ext h (h++[qF 4 [AY e]]++[qF 4 [EQ]]++[qF 1 [[.sl .nil 0 []]]]):=(((ext.rfl' h).app _).app _).app _;have o4:h.length<(h++[qF 4 [AY e]]).length:=A8;have o5:(h++[qF 4 [AY e]]).length<(h++[qF 4 [AY e]]++[qF 4 [EQ]]).length:=A8;have hnl:=kI xs;refine DI @bxE QW A3V ?_
 generalize h++[qF 4 [AY e]]++[qF 4 [EQ]]++[qF 1 [[.sl .nil 0 []]]]=H0 at ge g4 g5 hx|-
 generalize (h++[qF 4 [AY e]]++[qF 4 [EQ]]).length=b5 at g5 o5|-
 generalize (h++[qF 4 [AY e]]).length=b4 at g4 o4 o5|-
 have l5:=AB g5;refine(sR G xs s _ U).use ?_
 generalize normal xs=L at hnl|-
 have hL:L.length<=1048576:=U;generalize Bins.nm L=m;refine Z ?_;refine(AEM G _ rfl _).mono ?_;rintro v H ⟨rfl,rfl⟩
 have I0:Ic h (H0++[qF 1 [[.sl m 2 (L.map encR)]]]++[qF 1 [[.n 16]]]) (H0++[qF 1 [[.sl m 2 (L.map encR)]]]++[qF 1 [[.n 16]]]) e L m b4 b5 H0.length (H0.length+1) 0 (.sl .nil 0 []) :=
  ⟨AL (AL ge),AL (AL g4),AL (AL g5),AL (AX _ _),A8,outG.nil _ _ _ _,(hx.app _).app _,jF _⟩
 generalize H0++[qF 1 [[.sl m 2 (L.map encR)]]]++[qF 1 [[.n 16]]]=H1 at I0|-
 have k2:b5<H0.length:=l5;have k3:H0.length<H0.length+1:=Nat.lt_succ_self _
 generalize H0.length+1=c3 at I0 k3|-
 generalize H0.length=c2 at I0 k2 k3|-
 have l3:=AB I0.g3;clear ge g4 g5 hx l5;refine Z ?_;refine AXU AZ AC (parts L) (fun k=>[.sl (pN m) 2 ((part L k).map encR)]) (fun k H=>∃v,Ic h H1 H e L m b4 b5 c2 c3 k v) (AEN G L m hL c2 c3 _ (fun k H ⟨v,I⟩=>⟨I.g2,I.g3⟩)) ⟨_,I0⟩ ?_ ?_
 .clear I0
  rintro k H hk ⟨v,I⟩;refine⟨rfl,?_⟩;have hy:=I.hy;have lb:=O6 I.ge;have gc0:(H++[qF 4 [AY (cpE e)]]++[qF 4 [EQ]])[(H++[qF 4 [AY (cpE e)]]).length]?=some (qF 4 [EQ]):=AX _ _;have sc0:=VQ (cs:=[.n 23,.n 0,.str ⟨#[]⟩,.own H.length 0 1]) gc0 rfl rfl rfl
  have N0:In H1 H ((H++[qF 4 [AY (cpE e)]]++[qF 4 [EQ]]).set (H++[qF 4 [AY (cpE e)]]).length (qF 4 [[.n 23,.n 0,.str ⟨#[]⟩,.own H.length 0 1]])) (cpE e) ((part L k).take 0) (H++[qF 4 [AY (cpE e)]]).length (.own H.length 0 1) :=
   ⟨CQ gc0,.inr ⟨by rw[qB]; exact List.cons_ne_nil _ _,H.length,jF _,by rw[qB]; rfl,by rw[qB]; exact DC (AL (AX _ _)) A8⟩,(((ext.rfl' H).app _).app _).set A8 _,fun b hb=>by cases hb; simp⟩
  refine DI @AVT @AVS lb ?_;refine(ABJ G (wt e) e H (jF _) hw).use ?_;refine EO @A0Z @AVE QW sc0 ?_
  generalize ((H++[qF 4 [AY (cpE e)]]++[qF 4 [EQ]]).set (H++[qF 4 [AY (cpE e)]]).length (qF 4 [[.n 23,.n 0,.str ⟨#[]⟩,.own H.length 0 1]]))=H2 at N0|-
  have hb7:H.length<(H++[qF 4 [AY (cpE e)]]).length:=A8
  generalize (H++[qF 4 [AY (cpE e)]]).length=b7 at N0 hb7|-
  generalize AV.own H.length 0 1=u0 at N0;clear gc0 sc0 lb;refine D9 2 (fun F H'=>F 5=.ptr b5 0 0∧F 7=.ptr b7 0 0∧∃u,In H1 H H' (cpE e) (part L k) b7 u) (fun _ _=>False) ?_ ?_ (fun _ _ q=>q.elim)
  .refine BB (fun n F H'=>∃j u,n+j=(part L k).length∧F 5=.ptr b5 0 0∧F 7=.ptr b7 0 0∧F 21=.sl (pN m) 2 ((part L k).map encR)∧F 22=.n ((part L k).length:Nat)∧F 23=.n (j:Nat)∧In H1 H H' (cpE e) ((part L k).take j) b7 u) (part L k).length
    ⟨0,u0,A8,AC,AC,AC,AC,AC,N0⟩ ?_
   clear N0;rintro n F H' ⟨j,u,hj,f5,f7,f21,f22,f23,N⟩;refine AQ f22 f23 ?_;refine DU ?_ ?_<;>intro hj'
   .have hpl:(part L k).length<=16:=by unfold part; rw[jU]; omega
    have N1:In H1 H (H'++[qF 2 [encR (part L k)[j]]]) (cpE e) ((part L k).take j) b7 u:=⟨AL N.g7,N.ho.app _,N.hx.app _,N.ne⟩;simp -implicitDefEqProofs only[vQ,zA,jY,zB,zY,CJ,↓reduceIte,jC,enP,YM,IX,jQ,f21,f23,CG hj',CY fN MJ bQ hj',AK4,AIM _ _ [.n 0,.n 0] rfl];have q0:BO jA (H'++[qF 2 [encR (part L k)[j]]]) 3 (.ptr H'.length 0 0)=some (.n (part L k)[j].lo):=by rw[D6 ag3,XG]
    have q1:BO jA (H'++[qF 2 [encR (part L k)[j]]]) 3 (.ptr H'.length 0 1)=some (.n (part L k)[j].hi):=by rw[D6 ag3,VS]
    generalize H'++[qF 2 [encR (part L k)[j]]]=H3 at N1 q0 q1|-
    have hlen:(insL (cpE e) ((part L k).take j)).length+2<=8388608:=by
     unfold insL;rw[zH,hU,jU]; omega
    obtain⟨v',H4,ha,ho2,hkeep,he2,hl2,hv2⟩:=X4 .full N1.ho U5 I8 cN bZ U (ys:=[cE (part L k)[j].lo,cE (part L k)[j].hi]) hlen N1.hx;have ha':EP jA true H3 23 23 u (.sl .full 4 [AY (cE (part L k)[j].lo),AY (cE (part L k)[j].hi)])=some (v',H4):=ha
    have hits:insL (cpE e) ((part L k).take j)++[cE (part L k)[j].lo,cE (part L k)[j].hi]=insL (cpE e) ((part L k).take (j+1)):=by
     unfold insL;rw[ABT hj']; rfl
    rw[hits] at ho2;have g72:=hkeep _ _ N1.g7 (fun q=>N1.ne _ q rfl);have l7:BO jA H3 23 (.ptr b7 0 3)=some u:=by rw[BH L6 N1.g7 (row:=[.n 23,.n 0,.str ⟨#[]⟩,u]) rfl]; rfl
    have lb7:=AB N1.g7
    have hst:DX jA H4 23 (.ptr b7 0 3) v'=some (H4.set b7 (qF 4 [[.n 23,.n 0,.str ⟨#[]⟩,v']])):=by
     rcases ho2 with⟨e1,_⟩|⟨_,o,_,rfl,_⟩
     .exact absurd e1 (List.cons_ne_nil _ _)
     .rw[IY (cs:=[.own o 0 _]) rfl (AZ:szO jA 23=some 1) g72 A8]; rfl
    have hv2':∀b,isB v' b->b≠b7:=fun b hb=>by
     rcases hv2 b hb with q|q
     .exact N1.ne b q
     .omega
    have N2:In H1 H (H4.set b7 (qF 4 [[.n 23,.n 0,.str ⟨#[]⟩,v']])) (cpE e) ((part L k).take (j+1)) b7 v' :=
     ⟨CQ g72,ho2.keep (fun b hb=>by rw[List.getElem?_set_ne (fun q=>hv2' b hb q.symm)]),he2.set U _,hv2'⟩
    refine DJ AZ ?_;refine EO f7 l7 q0 q1 ?_;refine⟨_,WO G _ _,_,WO G _ _,?_⟩
    try refine VW f5 f7 f21 f22 f23 @dZ ha' hst (CW j) ?_
    exact⟨n-1,U,j+1,v',U,A7,A7,A7,A7,A7,N2⟩
   .rw[jJ U] at N
    refine Z ?_;exact⟨A7,A7,u,N⟩
  .rintro F H' ⟨f5,f7,u,N⟩
   have I2:=I.ext N.hx;have hpl:(part L k).length<=16:=by unfold part; rw[jU]; omega
   obtain⟨o,n0,hu,ho1,ho2⟩:∃o n0,u=.own o 0 n0∧H.length<=o∧(n0=(insL (cpE e) (part L k)).length∧H'[o]?=some (qF 4 ((insL (cpE e) (part L k)).map AY))):=by
    rcases N.ho with⟨e1,_⟩|⟨_,o,h1,h2,h3⟩
    .exact absurd e1 (List.cons_ne_nil _ _)
    .exact⟨o,_,h2,h1,rfl,h3⟩
   subst hu;obtain⟨rfl,ho2⟩:=ho2;have hk1:(nodes (cpE e) L k).length<8388608:=by rw[KU]; unfold parts at hk; omega
   obtain⟨v',H3,ha,ho3,hkeep,hl3,hv3,⟨ob,n1,hv'⟩,hext⟩:=(ARI I2.ho).app2 U5 I8 cN bZ U (by rw[jL]; exact hk1) I2.hy EQ;subst hv';have hob:ob=H'.length:=hv3 ob rfl
   obtain⟨hn1,hb3⟩:n1=k+1∧H3[ob]?=some (qF 4 ((nodes (cpE e) L k).map AY++[EQ])):=by
    rcases ho3 with⟨e1,_⟩|⟨_,o',_,h2,h3⟩
    .simp at e1
    .cases h2
     refine⟨by simp [KU],?_⟩;rw[List.map_id] at h3; exact h3
   subst hn1;have hlo:∀b,isB v b->H1.length<=b∧b<H.length:=fun b hb=>I.ho.lt hb
   have nb:∀b x,H'[b]?=some x->b<H1.length∨H.length<=b->H3[b]?=some x:=fun b x hx hb=>hkeep b x hx fun q=>by have:=hlo b q; omega
   have l5:b5<H1.length:=U;have lo':=AB ho2;have l7':=AB N.g7;have hle:=N.hx.le
   have hset:∀a b:List AV,((nodes (cpE e) L k).map AY++[a]).set k b=(nodes (cpE e) L k).map AY++[b]:=fun a b=>by
    rw[List.set_append_right _ _ (by simp [KU])]; simp [KU]
   have hget:∀a:List AV,((nodes (cpE e) L k).map AY++[a])[k]?=some a:=fun a=>by
    rw[List.getElem?_append_right (by simp [KU])]; simp [KU]
   have d5:BO jA H' 23 (.ptr b5 0 0)=some v:=by rw[BH L6 I2.g5 (row:=[v]) rfl]; rfl
   have d7:BO jA H' 79 (.ptr b7 0 0)=some (.agg [.n 23,.n 0,.str ⟨#[]⟩,.own o 0 (insL (cpE e) (part L k)).length]):=KY N.g7 rfl;have dl:JQ jA 23 v=some (.n (k:Nat)):=by rw[I2.ho.len ANF,KU]
   have ha':EP jA true H' 23 23 v (.sl .full 4 [EQ])=some (.own ob 0 (k+1),H3):=ha;have di:JM 4 H3 (.own ob 0 (k+1)) (.n (k:Nat))=some (.ptr ob k 0):=by rw[IG hb3 (Nat.lt_succ_self k),jG]
   have s1:DX jA H3 79 (.ptr ob k 0) (.agg [.n 23,.n 0,.str ⟨#[]⟩,.own o 0 (insL (cpE e) (part L k)).length])=some (H3.set ob (qF 4 ((nodes (cpE e) L k).map AY++[[.n 23,.n 0,.str ⟨#[]⟩,.own o 0 (insL (cpE e) (part L k)).length]]))):=by
    rw[G9 (PI rfl) I8 hb3 (hget EQ) (jF 4),hset]; rfl
   have g53:=nb _ _ I2.g5 (.inl l5)
   have s2:DX jA (H3.set ob (qF 4 ((nodes (cpE e) L k).map AY++[[.n 23,.n 0,.str ⟨#[]⟩,.own o 0 (insL (cpE e) (part L k)).length]]))) 23 (.ptr b5 0 0) (.own ob 0 (k+1)) =
     some ((H3.set ob (qF 4 ((nodes (cpE e) L k).map AY++[[.n 23,.n 0,.str ⟨#[]⟩,.own o 0 (insL (cpE e) (part L k)).length]]))).set b5 (qF 1 [[.own ob 0 (k+1)]])):=by
    rw[IY (cs:=[.own ob 0 (k+1)]) rfl (AZ:szO jA 23=some 1) (DC g53 U) A8]; rfl
   have hob1:H1.length<=ob:=by have:=I2.hy; omega
   have hoo:o≠ob:=U;have ob5:ob≠b5:=U;have o5':o≠b5:=U;have lob:=AB hb3
   have t2:DX jA H3 23 (.ptr b5 0 0) (.own ob 0 (k+1))=some (H3.set b5 (qF 1 [[.own ob 0 (k+1)]])):=by
    rw[IY (cs:=[.own ob 0 (k+1)]) rfl (AZ:szO jA 23=some 1) g53 A8]; rfl
   have t1:DX jA (H3.set b5 (qF 1 [[.own ob 0 (k+1)]])) 79 (.ptr ob k 0) (.agg [.int .i64 23,.int .i64 0,.str ⟨#[]⟩,.own o 0 (insL (cpE e) (part L k)).length])=some ((H3.set ob (qF 4 ((nodes (cpE e) L k).map AY++[[.int .i64 23,.int .i64 0,.str ⟨#[]⟩,.own o 0 (insL (cpE e) (part L k)).length]]))).set b5 (qF 1 [[.own ob 0 (k+1)]])):=by
    rw[G9 (PI rfl) I8 (DC hb3 ob5) (hget EQ) (jF 4),hset,List.set_comm _ _ ob5]; rfl
   refine Z ?_;refine AB1 [] [0,1,2,3,4,5] 6 7 [] AZ trivial ?_;simp only[NC,List.getElem?_cons_succ,List.getElem?_cons_zero];simp -implicitDefEqProofs only[vQ,LC,KD,zA,jY,zB,zY,Bool.or_true,PG,KX,P8,IL,AM7,GH,JX,↓reduceIte,jC,jP,enP,PK,jQ,f5,f7,d5,d7,dl,A1F,AU7,ha',di,s1,s2,t1,t2];rw[and_self_iff];clear t1 t2 s1 s2;generalize hrN : [AV.int .i64 23,.n 0,.str ⟨#[]⟩,.own o 0 (insL (cpE e) (part L k)).length]=rowN at *;have hb4:(H3.set ob (qF 4 ((nodes (cpE e) L k).map AY++[rowN])))[ob]?=some (qF 4 ((nodes (cpE e) L k).map AY++[rowN])):=CQ hb3;have hbo:((H3.set ob (qF 4 ((nodes (cpE e) L k).map AY++[rowN]))).set b5 (qF 1 [[.own ob 0 (k+1)]]))[ob]?=some (qF 4 ((nodes (cpE e) L k).map AY++[rowN])):=DC hb4 ob5;have ho5:((H3.set ob (qF 4 ((nodes (cpE e) L k).map AY++[rowN]))).set b5 (qF 1 [[.own ob 0 (k+1)]]))[o]?=some (qF 4 ((insL (cpE e) (part L k)).map AY)):=DC (DC (nb _ _ ho2 (.inr ho1)) hoo) o5';have gst:=GSt.frz (E:=En G) hbo (hget rowN) (j:=3) (by rw[<-hrN]; rfl) ho5 hoo A8 (by rw[zM,jJ A8]; exact XM _)
   have hr6:((nodes (cpE e) L k).map AY++[rowN]).set k (rowN.set 3 (.sl .any 4 ((((insL (cpE e) (part L k)).map AY).drop 0).take (insL (cpE e) (part L k)).length)))=(nodes (cpE e) L (k+1)).map AY:=by
    rw[hset,kJ,List.map_append,jK,jM,zR,<-hrN,zM,jJ A8]; rfl
   rw[hr6] at gst;refine⟨_,gst,.own ob 0 (k+1),?_⟩
   have keep:∀b x,b<H1.length->b≠b5->H'[b]?=some x->(((((H3.set ob (qF 4 ((nodes (cpE e) L k).map AY++[rowN]))).set b5 (qF 1 [[.own ob 0 (k+1)]])).set o .dead).set ob (qF 4 ((nodes (cpE e) L (k+1)).map AY)))[b]?=some x):=fun b x h1 h2 h3 =>
    DC (DC (DC (DC (nb b x h3 (.inl h1)) U) h2) U) U
   have hex:=hext h U I2.hx;refine⟨keep _ _ U U I2.ge,keep _ _ U U I2.g4,DC (DC (CQ (DC g53 U)) U) U,keep _ _ U U I2.g2,keep _ _ U U I2.g3,.inr ⟨by rw[kJ]; simp,ob,hob1,by rw[KU],CQ (DC hbo hoo.symm)⟩,(((hex.set U _).set U _).set U _).set U _,by simp; omega⟩
 .rintro H ⟨v,I⟩
  have hn:=I.ho.len ANF;rw[KU] at hn;have d5:BO jA H 23 (.ptr b5 0 0)=some v:=by rw[BH L6 I.g5 (row:=[v]) rfl]; rfl
  have hpe:=parts_eq L;rcases Classical.em (L=[]) with hL0|hL0
  .have hz:(((parts L:Nat):Int)==0)=true:=by rw[hL0]; rfl
   refine DI d5 hn hz ?_;refine(WO G 0 H).use ?_;simp -implicitDefEqProofs only[vQ,zA,jY,zB,zY,N7,CJ,↓reduceIte,jC,enP,IX,jQ,QH I.g4 rfl];rw[JA (b:=b4) AC (O6 (CQ I.g4))];refine⟨I.hx.set U _,?_⟩;rw[show RH e L=cE 0 by unfold RH; rw[if_pos hL0],EY];rfl
  have hlp:0<L.length:=qQ.2 hL0;have hp0:0<parts L:=U;have hz:(((parts L:Nat):Int)==0)=false:=by simp; omega
  obtain⟨ob,rfl,hob1,hob⟩:∃ob,v=.own ob 0 (parts L)∧H1.length<=ob∧H[ob]?=some (qF 4 ((nodes (cpE e) L (parts L)).map AY)):=by
   rcases I.ho with⟨e1,_⟩|⟨_,o,h1,h2,h3⟩
   .have:=congrArg List.length e1
    rw[KU,List.length_nil] at this; omega
   .exact⟨o,by rw[h2,KU],h1,h3⟩
  have hrow:∀i,i<parts L->((nodes (cpE e) L (parts L)).map AY)[i]?=some (AY (JI (cpE e) (part L i))):=fun i hi=>by
   have hi':i<(nodes (cpE e) L (parts L)).length:=by rw[KU]; exact hi
   rw[List.getElem?_map,List.getElem?_eq_getElem hi',AJL]; rfl
  have hld:∀(H':Hp) i,H'[ob]?=some (qF 4 ((nodes (cpE e) L (parts L)).map AY))->i<parts L->BO jA H' 79 (.ptr ob i 0)=some (.agg (AY (JI (cpE e) (part L i)))):=fun H' i h' hi=>by
   rw[EH OZ I8 h' (hrow i hi) (by rw[EF]; exact jF 4),zM,<-EF (JI (cpE e) (part L i)),List.take_length]
  have i0:JM 4 H (.own ob 0 (parts L)) (.n 0)=some (.ptr ob 0 0):=IG (n:=0) hob hp0;have hcut:∀H':Hp,H'[ob]?=some (qF 4 ((nodes (cpE e) L (parts L)).map AY))->IQ jA H' 23 (.own ob 0 (parts L)) (some (.n 1)) none none=some (.own ob 1 (parts L-1)):=fun H' h'=>yH (l:=1) U5 I8 h' hp0
  have hobH:=AB hob;have s10:=nD H (JI (cpE e) (part L 0)) EQ rfl;have g10:(H++[qF 4 [AY (JI (cpE e) (part L 0))]])[H.length]?=some (qF 4 [AY (OG (cpE e) L 0)]):=AX H _;refine NZ d5 hn hz i0 (hld H 0 hob hp0) QW s10 ?_;have I3:=I.ext (Sm.ext.app (Sm.ext.rfl' H) [qF 4 [AY (JI (cpE e) (part L 0))]]);have hob3:=AL (x:=qF 4 [AY (JI (cpE e) (part L 0))]) hob;have d53:BO jA (H++[qF 4 [AY (JI (cpE e) (part L 0))]]) 23 (.ptr b5 0 0)=some (.own ob 0 (parts L)):=by rw[BH L6 I3.g5 (row:=[.own ob 0 (parts L)]) rfl]; rfl
  refine AQ d53 (hcut _ hob3) ?_;have l3:H.length=H.length:=rfl
  generalize hb10:H.length=b10 at g10|-
  have hx3:=I3.hx;have g43:=I3.g4
  generalize H++[qF 4 [AY (JI (cpE e) (part L 0))]]=H3 at g10 hob3 hx3 g43|-
  have hle1:=I.hy;clear I3 I d5 d53 hn i0 s10
  refine BB (fun n F H'=>∃k,n+k=parts L-1∧F 4=.ptr b4 0 0∧F 10=.ptr b10 0 0∧F 53=.own ob 1 (parts L-1)∧F 54=.n ((parts L-1:Nat):Int)∧F 55=.n (k:Nat)∧H'[b10]?=some (qF 4 [AY (OG (cpE e) L k)])∧H'[ob]?=some (qF 4 ((nodes (cpE e) L (parts L)).map AY))∧H'[b4]?=some (qF 4 [EQ])∧Sm.ext h H') (parts L-1)
   ⟨0,A8,AC,AC,AC,AC,AC,g10,hob3,g43,hx3⟩ ?_
  clear g10 hob3 g43 hx3;rintro n F H' ⟨k,hk,f4,f10,f53,f54,f55,g10,gob,g4,hx⟩;refine AQ f54 f55 ?_;refine BG ?_ ?_<;>intro hc
  .have hk':k<parts L-1:=BL hc
   have ik:JM 4 H' (.own ob 1 (parts L-1)) (.n (k:Nat))=some (.ptr ob (k+1) 0):=by rw[IG gob hk',Nat.add_comm]
   have s12:=nD H' (JI (cpE e) (part L (k+1))) EQ rfl;have q10:=AL (x:=qF 4 [AY (JI (cpE e) (part L (k+1)))]) g10;have q12:=O6 (AX H' (qF 4 [AY (JI (cpE e) (part L (k+1)))]));have lb10:=AB g10
   have s10:DX jA (H'++[qF 4 [AY (JI (cpE e) (part L (k+1)))]]) 79 (.ptr b10 0 0) (.agg [.n 20,.n 0,.str ⟨#[]⟩,.sl .full 4 [AY (OG (cpE e) L k),AY (JI (cpE e) (part L (k+1)))]])=some ((H'++[qF 4 [AY (JI (cpE e) (part L (k+1)))]]).set b10 (qF 4 [AY (OG (cpE e) L (k+1))])):=by
    have:=QH (e:=OG (cpE e) L (k+1)) q10 (EF _);change DX _ _ _ _ (.agg (AY (orE (OG (cpE e) L k) (JI (cpE e) (part L (k+1))))))=some (List.set _ _ (qF 4 [AY (orE (OG (cpE e) L k) (JI (cpE e) (part L (k+1))))])) at this;show _=some (List.set _ _ (qF 4 [AY (orE (OG (cpE e) L k) (JI (cpE e) (part L (k+1))))]))
    rw[AGD] at this|-
    exact this
   simp -implicitDefEqProofs only[vQ,LC,KD,zA,jY,zB,zY,CJ,P9,GH,↓reduceIte,jC,enP,PK,IX,jQ,f10,f53,f55,ik,hld H' (k+1) gob U,QW,s12,O6 q10,q12,dZ,AVD,s10,CW k];exact⟨n-1,U,k+1,U,A7,A7,A7,A7,A7,CQ q10,DC (AL gob) U,DC (AL g4) U,(hx.app _).set U _⟩
  .have hk':k=parts L-1:=by have:¬k<parts L-1:=BL hc
                            omega
   subst hk';simp -implicitDefEqProofs only[vQ,zA,jY,zB,zY,UI,iP,Y5,xL,CJ,↓reduceIte,jC,enP,IX,jQ,f4,f10,O6 g10,QH g4 rfl];rw[JA (b:=b4) (DW f4) (O6 (CQ g4))];refine⟨hx.set U _,?_⟩;rw[eX e L hL0,EY];rfl
end
end Go.Proofs.YtiihpnicbekebaaGreatDoor.Ho
namespace Go.Proofs.YtiihpnicbekebaaGreatDoor.Bd.Cl
open Sm Bins Cov Xe Wd Bl Ho Go.RowKit
variable {ws:List Wg} {k:Nat}
def I9 (n:ByteArray):Ex:=.mk 2 0 n .nil []
def OE (n:ByteArray):List AV:=[.n 2,.n 0,.str n,.sl .nil 0 []]
theorem vI (n:ByteArray):CvRow (OE n) (AY (I9 n)):=by
 rw[EY];exact CvRow.cons rfl (Cv.refl _) (CvRow.cons rfl (Cv.refl _) (CvRow.cons rfl (Cv.refl _) (CvRow.cons rfl (Cv.nil 0 4) CvRow.nil)))
abbrev Iv:=Sum ByteArray Ex
def pF:Iv->List AV
 | .inl n=>OE n
 | .inr e=>AY e
def ASB:Iv->Ex
 | .inl n=>I9 n
 | .inr e=>e
theorem ANW:∀x:Iv,CvRow (pF x) (AY (ASB x))
 | .inl n=>vI n
 | .inr e=>CvRow.refl fun v hv=>by
   have:=UF e;rw[List.all_eq_true] at this;exact this v hv
theorem AZY:Frz pF:=fun n h d x=>by
 cases x with
 | inl k=>exact⟨rfl,rfl⟩
 | inr e=>exact Ho.frzEx n h d e
def ivL (n:ByteArray)(l:List Rng):List Iv:=.inl n::(cEs l).map .inr
theorem AWO (n:ByteArray)(l:List Rng):(ivL n l).map ASB=insL (I9 n) l:=by
 unfold ivL insL;rw[List.map_cons,wF];show I9 n::(cEs l).map (ASB ∘ .inr)=_;rw[show(ASB ∘ Sum.inr:Ex->Ex)=id from rfl,List.map_id]
def ivW (n:ByteArray)(l:List Rng):List AV:=[.n 23,.n 0,.str ⟨#[]⟩,.sl .any 4 ((ivL n l).map pF)]
theorem AWN (n:ByteArray)(l:List Rng):CvR (.agg (ivW n l)) (.agg (AY (JI (I9 n) l))):=by
 rw[zR,<-AWO,wF];exact CvR.agg (CvRL.cons (CvR.refl _) (CvRL.cons (CvR.refl _) (CvRL.cons (CvR.refl _) (CvRL.cons (CvR.sl (Cv.map fun x _=>ANW x)) CvRL.nil))))
theorem ATV (n:ByteArray):IR jA 79 [(0,.n 2),(2,.str n)]=some (.agg (OE n)):=AZ
theorem A3L (h:Hp)(n:ByteArray):C9 jA true h 23 1 [(0,.agg (OE n))]=some (.own h.length 0 1,h++[qF 4 [OE n]]):=AZ
section
variable (G:Nat->AV)
theorem WM (n:Int)(h:Hp):PCall (En G) 257 [.n n] h (.agg (AY (cE n))):=by
 refine PCall.res ?_ (lX n);refine UC 3 (fun n H=>rfl) ?_;refine acL Tryz.func257 [.cell 2 79] ?_;have g2:=AX h (qF 4 [EQ]);have s2:=VQ (cs:=lY 1 n) g2 rfl rfl rfl;refine AQ QW @AHS ?_;rw[show([AV.int .i64 0,.n 0,.str ⟨#[]⟩,.sl .nil 0 []]:List AV)=EQ from rfl];refine AO s2 ?_;rw[JA (b:=h.length) AC (KY (CQ g2) rfl)];exact⟨rfl,((ext.rfl' h).app _).set (jF _) _⟩
theorem eW (nm:ByteArray)(l:List Rng)(s:SM)(hl:l.length<=1048576)(h:Hp):PCall (En G) 258 [.str nm,.sl s 2 (l.map encR)] h (.agg (AY (JI (I9 nm) l))):=by
 refine PCall.res (r:=.agg (ivW nm l)) ?_ (AWN nm l);refine ACalls.pure (R:=fun v H=>Sm.ext h H∧FI h.length H 4 v=.agg (ivW nm l)) 4 ?_ (fun v H ⟨a,b⟩=>⟨a,b⟩);refine J7 (H:=hint [10,25] []) (enM G) Tryz.func258 rfl (by kernel_rfl) (by kernel_rfl) (jB (by kernel_rfl)) ?_;show awp _ _ _ _ _ (NU _ [.cell 4 79] _);have g4:=AL (x:=qF 4 [OE nm]) (AX h (qF 4 [EQ]));have g5:=AX (h++[qF 4 [EQ]]) (qF 4 [OE nm]);have hx:Sm.ext h (h++[qF 4 [EQ]]++[qF 4 [OE nm]]):=((ext.rfl' h).app _).app _
 have ho:outG 4 pF (h++[qF 4 [EQ]]) (ivL nm (l.take 0)) (.own (h++[qF 4 [EQ]]).length 0 1) (h++[qF 4 [EQ]]++[qF 4 [OE nm]]) :=
  .inr ⟨List.cons_ne_nil _ _,_,jF _,by rw[qB]; rfl,by rw[qB]; exact g5⟩
 have hlh:h.length<(h++[qF 4 [EQ]]).length:=A8;have hxx:Sm.ext (h++[qF 4 [EQ]]) (h++[qF 4 [EQ]]++[qF 4 [OE nm]]):=(ext.rfl' _).app _;refine AQ QW @ATV ?_;rw[show([AV.int .i64 0,.n 0,.str ⟨#[]⟩,.sl .nil 0 []]:List AV)=EQ from rfl];refine AO @A3L ?_
 generalize h++[qF 4 [EQ]]++[qF 4 [OE nm]]=H1 at g4 hx ho hxx|-
 generalize AV.own (h++[qF 4 [EQ]]).length 0 1=u0 at ho
 generalize h++[qF 4 [EQ]]=H0 at ho hlh hxx|-
 clear g5;refine D9 0 (fun F H=>∃u,F 4=.ptr h.length 0 0∧F 5=u∧H[h.length]?=some (qF 4 [EQ])∧Sm.ext h H∧outG 4 pF H0 (ivL nm l) u H) (fun _ _=>False) ?_ ?_ (fun _ _ q=>q.elim)
 .refine BB (fun n F H=>∃i u,n+i=l.length∧F 4=.ptr h.length 0 0∧F 5=u∧F 11=.sl s 2 (l.map encR)∧F 12=.n (l.length:Nat)∧F 13=.n (i:Nat)∧H[h.length]?=some (qF 4 [EQ])∧Sm.ext h H∧Sm.ext H0 H∧outG 4 pF H0 (ivL nm (l.take i)) u H) l.length
   ⟨0,u0,A8,AC,AC,AC,AC,AC,g4,hx,hxx,ho⟩ ?_
  clear g4 hx hxx ho;rintro n F H ⟨i,u,hi,f4,f5,f11,f12,f13,g4,hx,hxx,ho⟩;refine AQ f12 f13 ?_;refine DU ?_ ?_<;>intro hi'
  .simp -implicitDefEqProofs only[vQ,List.contains_cons,List.contains_nil,Nat.reduceBEq,Bool.or_false,CJ,↓reduceIte,Nat.reduceEqDiff,Option.getD_some,bNf,enP,YM,IX,Option.getD_none,f11,f13,CG hi',CY fN MJ bQ hi',AK4,AIM _ _ [.n 0,.n 0] rfl]
   have q0:BO jA (H++[qF 2 [encR l[i]]]) 3 (.ptr H.length 0 0)=some (.n l[i].lo):=by rw[D6 ag3,XG]
   have q1:BO jA (H++[qF 2 [encR l[i]]]) 3 (.ptr H.length 0 1)=some (.n l[i].hi):=by rw[D6 ag3,VS]
   have g4:=AL (x:=qF 2 [encR l[i]]) g4;have hx:=hx.app [qF 2 [encR l[i]]];have hxx:=hxx.app [qF 2 [encR l[i]]];have ho:=ho.app [qF 2 [encR l[i]]]
   generalize H++[qF 2 [encR l[i]]]=H3 at g4 hx hxx ho q0 q1|-
   have hlen:(ivL nm (l.take i)).length+2<=8388608:=by
    unfold ivL;rw[zH,jL,hU,List.length_take]; omega
   obtain⟨v',H4,ha,ho2,hkeep,he2,hl2,hv2⟩:=X4 .full ho U5 I8 cN bZ U (ys:=[.inr (cE l[i].lo),.inr (cE l[i].hi)]) hlen hxx;have ha':EP jA true H3 23 23 u (.sl .full 4 [AY (cE l[i].lo),AY (cE l[i].hi)])=some (v',H4):=ha
   have hits:ivL nm (l.take i)++[.inr (cE l[i].lo),.inr (cE l[i].hi)]=ivL nm (l.take (i+1)):=by
    unfold ivL;rw[ABT hi',qL]; rfl
   rw[hits] at ho2;have nlo:∀b,isB u b->H0.length<=b:=fun b hb=>(ho.lt hb).1
   have g42:=hkeep _ _ g4 (fun q=>by have:=nlo _ q; omega);have hx4:Sm.ext h H4:=AOQ (fun k y q=>hkeep _ _ (EJ hx q) (fun q'=>by have:=nlo _ q'; have:=AB q; omega)) (by have:=hx.le; omega);refine DJ AZ ?_;refine AQ q0 q1 ?_;refine⟨_,WM G _ _,_,WM G _ _,?_⟩
   try refine MR f4 f5 @dZ ha' f13 (CW i) ?_
   exact⟨n-1,U,i+1,v',U,A7,A7,A7,A7,A7,g42,hx4,he2,ho2⟩
  .rw[List.take_of_length_le U] at ho
   refine Z ?_;exact⟨u,A7,A7,g4,hx,ho⟩
 .rintro F H ⟨u,f4,f5,g4,hx,ho⟩
  have hlf:=ho.leaf;have hlf4:([.n 23,.n 0,.str ⟨#[]⟩,u]:List AV).all AV.leaf=true:=by simp [hlf]; exact⟨rfl,rfl,rfl⟩
  have bd:IR jA 79 [(0,.n 23),(3,u)]=some (.agg [.n 23,.n 0,.str ⟨#[]⟩,u]):=by
   rcases ho with⟨e1,_⟩|⟨_,o,_,rfl,_⟩
   .exact absurd e1 (List.cons_ne_nil _ _)
   .exact AVE _ _
  refine EO f4 f5 bd (VQ g4 rfl rfl hlf4) ?_;rw[JA (b:=h.length) (DW f4) (KY (CQ g4) rfl)];refine⟨hx.set (jF _) _,?_⟩;have ho4:=ho.setB (b:=h.length) hlh (qF 4 [[.n 23,.n 0,.str ⟨#[]⟩,u]]);have hz:=NG AZY ho4 h.length 1 U;show AV.agg [.n 23,.n 0,.str ⟨#[]⟩,FI h.length _ 3 u]=.agg (ivW nm l);rw[hz]; rfl
end
def YN (n:Int)(w:Wg):Bool:=decide (w.lo<=n)&&decide (n<=w.hi)
def Q5 (n:Int):List Wg->Bool
 | []=>false
 | w::ws=>if YN n w=true then decide (w.w>0) else Q5 n ws
theorem AF9 {n:Int}:∀ {ws:List Wg} {k:Nat} (hk:k<ws.length),(∀(j:Nat) (hj:j<k),YN n (ws[j]'U)=false)->YN n ws[k]=true->Q5 n ws=decide (ws[k].w>0)
 | [],k,hk,_,_=>by simp at hk
 | w::ws,0,_,_,h=>by
   have h:YN n w=true:=h;unfold Q5; rw[if_pos h]; rfl
 | w::ws,k+1,hk,hb,h=>by
   have h0:=hb 0 U;simp only[List.getElem_cons_zero] at h0;unfold Q5;rw[if_neg (by rw[h0]; decide)];exact AF9 (BL hk) (fun j hj=>by have:=hb (j+1) U; simpa using this) (BL h)
theorem AF8 {n:Int}:∀ {ws:List Wg},(∀w∈ws,YN n w=false)->Q5 n ws=false
 | [],_=>rfl
 | w::ws,h=>by unfold Q5; rw[if_neg (by rw[h w A8]; decide)]; exact AF8 fun x hx=>h x (by simp [hx])
def YR (out:List Rng)(n:Int):List Rng:=match out.getLast? with
 | some r=>if r.hi=n-1 then out.dropLast++[⟨r.lo,n⟩] else out++[⟨n,n⟩]
 | none=>[⟨n,n⟩]
def Q7 (l:List Int):List Rng:=l.foldl YR []
theorem iY (l:List Int)(n:Int):Q7 (l++[n])=YR (Q7 l) n:=by unfold Q7; rw[List.foldl_append]; rfl
def S9 (ws:List Wg):Nat->List Int
 | 0=>[]
 | k+1=>S9 ws k++(if Q5 (k:Int) ws=true then [(k:Int)] else [])
theorem kE (ws:List Wg):∀k,(S9 ws k).length<=k
 | 0=>jF 0
 | k+1=>by
   have:=kE ws k;simp only[S9,jS];split<;>simp<;>omega
def runs (ws:List Wg)(k:Nat):List Rng:=Q7 (S9 ws k)
def ABY (ws:List Wg)(k:Nat):Bool:=match k with
 | 0=>false
 | k+1=>Q5 (k:Int) ws
theorem XW (ws:List Wg)(k:Nat):runs ws (k+1)=if Q5 (k:Int) ws=true then YR (runs ws k) k else runs ws k:=by
 unfold runs;simp only[S9];split
 .rw[iY]
 .rw[List.append_nil]
theorem cT (ws:List Wg):∀k,(ABY ws k=true->∃r,(runs ws k).getLast?=some r∧r.hi=(k:Int)-1)∧(ABY ws k=false->∀r,(runs ws k).getLast?=some r->r.hi<(k:Int)-1)
 | 0=>⟨(fun h=>by cases h),fun _ r h=>by cases h⟩
 | k+1=>by
   obtain⟨i1,i2⟩:=cT ws k;rw[XW];constructor
   .intro h
    have h:Q5 (k:Int) ws=true:=h;rw[if_pos h];unfold YR
    cases hg:(runs ws k).getLast? with
    | none=>exact⟨⟨k,k⟩,rfl,by show(k:Int)=_; omega⟩
    | some r =>
      simp only;split
      .exact⟨⟨r.lo,k⟩,A8,by show(k:Int)=_; omega⟩
      .exact⟨⟨k,k⟩,A8,by show(k:Int)=_; omega⟩
   .intro h r hr
    have h:Q5 (k:Int) ws=false:=h;rw[if_neg (by rw[h]; decide)] at hr
    cases hb:ABY ws k with
    | true=>obtain⟨r',e1,e2⟩:=i1 hb; rw[e1] at hr; cases hr; omega
    | false=>have:=i2 hb r hr; omega
theorem AF2 (hp:Q5 (k:Int) ws=true)(hb:ABY ws k=true):∃r,(runs ws k).getLast?=some r∧runs ws (k+1)=(runs ws k).dropLast++[⟨r.lo,k⟩]:=by
 obtain⟨r,e1,e2⟩:=(cT ws k).1 hb;refine⟨r,e1,?_⟩;rw[XW,if_pos hp];unfold YR;rw[e1];simp only;rw[if_pos e2]
theorem xC (hp:Q5 (k:Int) ws=true)(hb:ABY ws k=false):runs ws (k+1)=runs ws k++[⟨k,k⟩]:=by
 rw[XW,if_pos hp];unfold YR
 cases hg:(runs ws k).getLast? with
 | none=>rw[List.getLast?_eq_none_iff.1 hg]; rfl
 | some r =>
   have:=(cT ws k).2 hb r hg;simp only;rw[if_neg U]
theorem AF0 (hp:Q5 (k:Int) ws=false):runs ws (k+1)=runs ws k:=by rw[XW,if_neg (by rw[hp]; decide)]
theorem AF1 (ws:List Wg):∀k,∀r∈runs ws k,0<=r.lo∧r.lo<=r.hi∧r.hi<(k:Int)
 | 0,r,h=>by cases h
 | k+1,r,h=>by
   have ih:=AF1 ws k
   cases hp:Q5 (k:Int) ws with
   | false=>rw[AF0 hp] at h; have:=ih r h; omega
   | true =>
     cases hb:ABY ws k with
     | false =>
       rw[xC hp hb] at h;rcases zX.1 h with h|h
       .have:=ih r h; omega
       .rw[qP.1 h]; show 0<=(k:Int)∧(k:Int)<=(k:Int)∧(k:Int)<_; omega
     | true =>
       obtain⟨r0,e1,e2⟩:=AF2 hp hb;rw[e2] at h;rcases zX.1 h with h|h
       .have:=ih r (List.dropLast_subset _ h); omega
       .rw[qP.1 h]
        have:=ih r0 (List.mem_of_getLast? e1);show 0<=r0.lo∧r0.lo<=(k:Int)∧(k:Int)<_; omega
def AET (ws:List Wg):List Int:=0::ws.flatMap fun w=>[w.lo,w.hi+1]
theorem APQ (ws:List Wg):(AET ws).length=1+2*ws.length:=by
 unfold AET
 have:∀l:List Wg,(l.flatMap fun w=>[w.lo,w.hi+1]).length=2*l.length:=fun l=>by
  induction l with
  | nil=>rfl
  | cons a l ih=>rw[List.flatMap_cons,jS,ih]; simp; omega
 rw[zH,this]; omega
theorem oR {n m:Int}:∀ {ws:List Wg},(∀w∈ws,YN n w=YN m w)->Q5 n ws=Q5 m ws
 | [],_=>rfl
 | w::ws,h=>by
   unfold Q5;rw[h w A8,oR fun x hx=>h x (by simp [hx])]
theorem ATU (hp:Q5 (k:Int) ws=true)(hb:ABY ws k=false):(k:Int)∈AET ws:=by
 cases k with
 | zero=>simp [AET]
 | succ k =>
   have hb:Q5 (k:Int) ws=false:=hb;apply Classical.byContradiction;intro hn
   have:Q5 ((k+1:Nat):Int) ws=Q5 (k:Int) ws:=oR fun w hw=>by
    unfold YN;have h1:((k+1:Nat):Int)≠w.lo:=fun e=>hn (by unfold AET; rw[zK,List.mem_flatMap]; exact .inr ⟨w,hw,by rw[e]; simp⟩)
    have h2:((k+1:Nat):Int)≠w.hi+1:=fun e=>hn (by unfold AET; rw[zK,List.mem_flatMap]; exact .inr ⟨w,hw,by rw[e]; simp⟩)
    have e1:decide (w.lo<=((k+1:Nat):Int))=decide (w.lo<=(k:Int)):=by rw[decide_eq_decide]; omega
    have e2:decide (((k+1:Nat):Int)<=w.hi)=decide ((k:Int)<=w.hi):=by rw[decide_eq_decide]; omega
    rw[e1,e2]
   rw[this,hb] at hp; cases hp
theorem yO {α:Type} [DecidableEq α]:∀ {l m:List α},l.Nodup->(∀x∈l,x∈m)->l.length<=m.length
 | [],m,_,_=>Nat.zero_le _
 | a::l,m,h,hs=>by
   have ha:a∈m:=hs a A8;rw[List.nodup_cons] at h;have ih:=yO (m:=m.erase a) h.2 fun x hx=>(List.mem_erase_of_ne (fun e=>h.1 (by rw[<-e]; exact hx))).2 (hs x (by simp [hx]))
   rw[List.length_erase_of_mem ha] at ih;have:=List.length_pos_of_mem ha;simp; omega
theorem iR (ws:List Wg):∀k,((runs ws k).map Rng.lo).Nodup∧∀x∈(runs ws k).map Rng.lo,x∈AET ws∧x<(k:Int)
 | 0=>⟨List.nodup_nil,fun x h=>by cases h⟩
 | k+1=>by
   obtain⟨i1,i2⟩:=iR ws k
   cases hp:Q5 (k:Int) ws with
   | false=>rw[AF0 hp]; exact⟨i1,fun x hx=>⟨(i2 x hx).1,by have:=(i2 x hx).2; omega⟩⟩
   | true =>
     cases hb:ABY ws k with
     | false =>
       rw[xC hp hb,qL];refine⟨List.nodup_append.2 ⟨i1,A8,fun a ha b hbm=>?_⟩,fun x hx=>?_⟩
       .have:=(i2 a ha).2
        have hb':b=(k:Int):=BL hbm;omega
       .rcases zX.1 hx with h|h
        .exact⟨(i2 x h).1,by have:=(i2 x h).2; omega⟩
        .have e:x=(k:Int):=BL h
         rw[e]; exact⟨ATU hp hb,U⟩
     | true =>
       obtain⟨r,e1,e2⟩:=AF2 hp hb
       have hm:(runs ws k).dropLast++[r]=runs ws k:=by
        obtain⟨hne,hl⟩:∃h:runs ws k≠[],(runs ws k).getLast h=r:=by
         cases hq:runs ws k with
         | nil=>rw[hq] at e1; cases e1
         | cons a l=>rw[hq] at e1; exact⟨A8,by rw[List.getLast?_eq_some_getLast A8] at e1; exact Option.some.inj e1⟩
        rw[<-hl]; exact List.dropLast_concat_getLast hne
       have e3:(runs ws (k+1)).map Rng.lo=(runs ws k).map Rng.lo:=by
        rw[e2]
        conv=>rhs; rw[<-hm]
        rw[qL,qL]; rfl
       rw[e3];exact⟨i1,fun x hx=>⟨(i2 x hx).1,by have:=(i2 x hx).2; omega⟩⟩
theorem AMF (ws:List Wg)(k:Nat):(runs ws k).length<=1+2*ws.length:=by
 have h:=yO (iR ws k).1 fun x hx=>((iR ws k).2 x hx).1
 rw[jL,APQ] at h; exact h
def nC (nm:ByteArray)(R:List Rng):Ex:=if R=[] then cE 0 else OG (I9 nm) R (parts R-1)
def vN (p:Pr)(d:Ds):Ex:=match p.vars[d.var.toNat]? with
 | some v=>nC v.name (runs d.ws (2^v.width.toNat))
 | none=>cE 0
def WA (p:Pr):List Ex:=p.dists.map (vN p)
end Go.Proofs.YtiihpnicbekebaaGreatDoor.Bd.Cl
namespace Go.Proofs.YtiihpnicbekebaaGreatDoor.Ho
open Sm Bins Cov Go.RowKit
variable {c:List (List Ex)} {b:Bin} {p:Pt} {H h:Hp} {v:Nat->AV} {N n t:Nat} {e:Ex}
def FD (e:Ex)(l:List Rng):Ex:=RH e (normal l)
def notE (e:Ex):Ex:=.mk 4 0 ⟨#[]⟩ .full [e]
def J8 (b:Bin):List Rs:=if b.ranges.l=[] then b.steps else [b.ranges]
def ARW (x:Option Ex)(c:List (List Ex)):List (List Ex):=match x with
 | none=>c
 | some y=>c.set (c.length-1) (c[c.length-1]?.getD []++[notE y])
def badO (ins:Ex->List Rng->Ex)(p:Pt):Option Ex:=if NM p.bins=[] then none else some (ins p.ex (NM p.bins))
def fG (ins:Ex->List Rng->Ex)(p:Pt)(b:Bin):List (List Ex):=ARW (badO ins p) ((J8 b).map fun s=>[ins p.ex s.l])
def VD (cs:List (List (List Ex))):Nat:=cs.foldl (fun n c=>max n c.length) 0
def sK (n t:Nat)(c:List (List Ex)):List Ex:=if n-c.length<=t then c[t-(n-c.length)]?.getD [] else []
def rowA (n:Nat)(cs:List (List (List Ex)))(t:Nat):List Ex:=cs.flatMap (sK n t)
def OY (cs:List (List (List Ex))):List (List Ex):=(zI (VD cs)).map (rowA (VD cs) cs)
theorem AGQ:∀(cs:List (List (List Ex))) (a:Nat),a<=cs.foldl (fun n c=>max n c.length) a∧∀c∈cs,c.length<=cs.foldl (fun n c=>max n c.length) a
 | [],a=>⟨jF _,fun c hc=>by cases hc⟩
 | x::cs,a=>by
   obtain⟨h1,h2⟩:=AGQ cs (max a x.length);rw[qO];refine⟨U,fun c hc=>?_⟩;rcases zK.1 hc with rfl|hc
   .omega
   .exact h2 c hc
theorem ANI {cs:List (List (List Ex))}(h:c∈cs):c.length<=VD cs:=(AGQ cs 0).2 c h
theorem ZO:∀(cs:List (List (List Ex))) (a b:Nat),a<=b->(∀c∈cs,c.length<=b)->cs.foldl (fun n c=>max n c.length) a<=b
 | [],_,_,h,_=>h
 | x::cs,a,b,h,h2=>by
   rw[qO];exact ZO cs _ b (by have:=h2 x A8; omega) fun c hc=>h2 c (by simp [hc])
theorem AJQ (cs:List (List (List Ex)))(k:Nat)(hk:k<cs.length):VD (cs.take (k+1))=max (VD (cs.take k)) cs[k].length:=by
 unfold VD;rw[jW hk,List.foldl_append]; rfl
theorem yR (x:Option Ex)(c:List (List Ex)):(ARW x c).length=c.length:=by cases x<;>simp [ARW]
theorem ACV (b:Bin):sets b=J8 b:=by
 unfold sets J8
 cases h:b.ranges.l with
 | nil=>rfl
 | cons x xs=>rw[if_pos A8,if_neg A8]
structure VB (b:Bin):Prop where
 one:b.steps=[]∨b.ranges.l=[]
 ne:J8 b≠[]
 few:(J8 b).length<=8
 k0:0<=b.kind
 k2:b.kind<=2
 sk:b.kind≠0->b.steps=[]
 each:∀s∈J8 b,s.l≠[]∧s.l.length<=64∧∀r∈s.l,0<=r.lo∧r.lo<=r.hi∧r.hi<=65535
theorem AX9 (h:GR b=0):VB b:=by
 unfold GR at h;split at h
 case isFalse=>cases h
 split at h
 case isTrue=>cases h
 rename_i h1 h2;split at h
 case isTrue=>cases h
 rename_i h3;split at h
 case isTrue=>cases h
 rename_i h4;split at h
 case isTrue=>cases h
 rename_i h5;have h2':I7 b=false:=BL h2;unfold I7 at h2';simp only[wB,decide_eq_false_iff_not,Bool.and_eq_false_iff] at h2';obtain⟨⟨⟨⟨⟨q1,q2⟩,q3⟩,q4⟩,q5⟩,q6⟩:=h2'
 have hst:∀s∈b.steps,s.l≠[]:=fun s hs e=>by
  have:b.steps.any (fun l=>decide (l.l.length=0))=true:=qK.2 ⟨s,hs,by rw[e]; rfl⟩;exact h3 this
 have h64:∀s∈sets b,s.l.length<=64:=fun s hs=>by
  rcases Nat.lt_or_ge 64 s.l.length with q|q
  .exact absurd (qK.2 ⟨s,hs,BL q⟩) h4
  .exact q
 have hbad:∀s∈sets b,∀r∈s.l,bad r=false:=fun s hs r hr=>by
  cases hb:bad r with
  | false=>rfl
  | true=>exact absurd (qK.2 ⟨s,hs,qK.2 ⟨r,hr,hb⟩⟩) h5
 have hone:b.steps=[]∨b.ranges.l=[]:=by
  rcases Classical.em (b.steps=[]) with q|q
  .exact .inl q
  .refine .inr ?_
   have l1:0<b.steps.length:=qQ.2 q;rcases Classical.em (b.ranges.l=[]) with r|r
   .exact r
   .have l2:0<b.ranges.l.length:=qQ.2 r
    have e1:decide (((b.ranges.l.length:Nat):Int)>0)=true:=by rw[decide_eq_true_eq]; omega
    have e2:decide (((b.steps.length:Nat):Int)>0)=true:=by rw[decide_eq_true_eq]; omega
    rw[e1,e2] at q3; cases q3
 have hne:b.steps≠[]∨b.ranges.l≠[]:=by
  rcases Classical.em (b.steps=[]) with q|q
  .refine .inr fun r=>?_
   rw[q,r] at q3; exact absurd q3 DK
  .exact .inl q
 rw[ACV] at h64 hbad;refine⟨hone,?_,?_,U,U,fun hk=>?_,fun s hs=>⟨?_,h64 s hs,fun r hr=>?_⟩⟩
 .unfold J8
  split
  .rename_i q; exact hne.resolve_right (fun r=>r q)
  .exact List.cons_ne_nil _ _
 .unfold J8
  split
  .simp at q6; omega
  .simp
 .rcases q4 with q|q
  .simp at q; exact absurd q hk
  .exact wR.1 U
 .unfold J8 at hs
  split at hs
  .exact hst s hs
  .rename_i q
   rw[qP.1 hs]; exact q
 .have:=hbad s hs r hr
  unfold bad at this;simp only[wB,decide_eq_false_iff_not] at this;omega
structure VP (p:Pt):Prop where
 n1:1<=p.bins.length
 n64:p.bins.length<=64
 ex:exE p.ex=0
 bins:∀b∈p.bins,VB b
theorem AX8 (h:FV p=0):VP p:=by
 obtain⟨h1,h2⟩:=eU h;unfold FV at h;split at h
 .cases h
 split at h
 .rename_i q; exact absurd h q
 rename_i q1;split at h
 .cases h
 split at h
 .cases h
 split at h
 .rename_i q; exact absurd h q
 rename_i q2;exact⟨h1,h2,BL q1,fun b hb=>AX9 (W9 _ (BL q2) b hb)⟩
theorem ACM {m:Mo}(h:FT m=0):∀p∈m.pts,VP p:=by
 unfold FT at h;split at h
 .cases h
 split at h
 .rename_i q; exact absurd h q
 rename_i q;exact fun p hp=>AX8 (W9 _ (BL q) p hp)
theorem mI {n:Nat}:∀ {l:List Bin},(∀b∈l,b.kind≠0->b.ranges.l.length<=n)->(NM l).length<=n*l.length
 | [],_=>by simp [NM]
 | b::l,h=>by
   have ih:=mI (l:=l) fun b hb=>h b (by simp [hb])
   show((if b.kind≠0 then b.ranges.l else [])++NM l).length<=n*(l.length+1);rw[jS,Nat.mul_add];by_cases hk:b.kind≠0
   .rw[if_pos hk]; have:=h b A8 hk; omega
   .rw[if_neg hk,zN]; omega
theorem VB.ranges {b:Bin}(v:VB b)(hk:b.kind≠0):J8 b=[b.ranges]:=by
 rcases Classical.em (b.ranges.l=[]) with q|q
 .have h1:=setsB_nil' q
  have h2:=v.ne;rw[h1,v.sk hk] at h2; exact absurd rfl h2
 .unfold J8; rw[if_neg q]
 where setsB_nil' {b:Bin} (h:b.ranges.l=[]):J8 b=b.steps:=by unfold J8; rw[if_pos h]
theorem VP.badLen (v:VP p):(NM p.bins).length<=4096:=by
 have:=mI (n:=64) (l:=p.bins) fun b hb hk=>((v.bins b hb).each b.ranges (by rw[(v.bins b hb).ranges hk]; simp)).2.1
 have:=v.n64;omega
def gG (l:List Ex):List AV:=AU4 ⟨.any,l⟩
def rowF (x:Ex):List AV:=[.sl .full 4 [AY x]]
def L8 (X:List Ex):Ex:=X[X.length-1]?.getD (cE 0)
def xK (X:List Ex):Option Ex->List (List AV)
 | none=>X.map rowF
 | some y=>(X.map rowF).set (X.length-1) [.sl .any 4 [AY (L8 X),AY (notE y)]]
theorem AIX (X:List Ex)(y:Option Ex):(xK X y).length=X.length:=by cases y<;>simp [xK]
theorem AF3 (x:Ex):CvRow (rowF x) (gG [x]):=CvRow.cons rfl (Cv.any A8 4 _) CvRow.nil
theorem AMH (X:List Ex)(y:Option Ex):Cv (.sl .any 1 (xK X y)) (.sl .any 1 ((ARW y (X.map fun x=>[x])).map gG)):=by
 refine Cv.rows (by rw[jL,yR,jL,AIX]) fun i r r' h1 h2=>?_
 cases y with
 | none =>
   change ((X.map fun x=>[x]).map gG)[i]?=some r' at h2;change (X.map rowF)[i]?=some r at h1;rw[wF,jX] at h2;rw[jX] at h1
   cases hx:X[i]? with
   | none=>rw[hx] at h1; cases h1
   | some x =>
     rw[hx] at h1 h2;cases h1; cases h2;exact AF3 x
 | some y =>
   change (((X.map fun x=>[x]).set ((X.map fun x=>[x]).length-1) ((X.map fun x=>[x])[(X.map fun x=>[x]).length-1]?.getD []++[notE y])).map gG)[i]?=some r' at h2;change ((X.map rowF).set (X.length-1) [.sl .any 4 [AY (L8 X),AY (notE y)]])[i]?=some r at h1;have hi:i<X.length:=by have:=AB h1; simpa using this
   rw[zG] at h1;rw[jX,zG] at h2;by_cases e:X.length-1=i
   .have hl:(X.map fun x=>[x])[X.length-1]?.getD []=[L8 X]:=by
     unfold L8;rw[jX,jI U]; rfl
    rw[if_pos e,if_pos (by simpa using U)] at h1;rw[jL,if_pos e,if_pos U,hl] at h2;cases h1; cases h2;exact CvRow.cons rfl (Cv.refl _) CvRow.nil
   .rw[if_neg e] at h1
    rw[jL,if_neg e,jX] at h2;rw[jX,jI hi] at h1;rw[jI hi] at h2;cases h1; cases h2;exact AF3 _
theorem AJR {X:List Ex}(h:X≠[]):X[X.length-1]?=some (L8 X):=by
 have:0<X.length:=qQ.2 h;unfold L8;rw[jI U]; rfl
theorem AG0:Frz rowF:=fun _ _ _ _=>⟨rfl,rfl⟩
theorem AJ5 {n:Nat}{H:Hp}{ob nb:Nat}{X:List Ex}{y:Ex}(h1:n<=ob)(h2:n<=nb)(_:X≠[])(g:H[ob]?=some (qF 1 ((X.map rowF).set (X.length-1) [.own nb 0 2])))
  (gn:H[nb]?=some (qF 4 [AY (L8 X),AY (notE y)])):FI n H 4 (.own ob 0 X.length)=.sl .any 1 (xK X (some y)):=by
 have e2:FI n H 3 (.own nb 0 2)=.sl .any 4 [AY (L8 X),AY (notE y)]:=frz_own (f:=AY) (xs:=[L8 X,notE y]) (d:=1) frzEx h2 gn;rw[Cov.frzF_own n H 3 ob 0 X.length 1 _ U g,zM,jJ A8,List.map_set,jK,jM,e2,frz_rows AG0 n H 2 X];rw[if_pos]
 .rfl
 refine⟨A8,?_⟩;rw[zJ];intro row hr;rcases List.mem_or_eq_of_mem_set hr with hr|rfl
 .obtain⟨x,_,rfl⟩:=qE.1 hr; rfl
 .rfl
structure BdB (p:Pt) (b:Bin):Prop where
 hs:J8 b≠[]
 hl:(J8 b).length<=1048576
 hr:∀s∈J8 b,s.l.length<=1048576
 hb:(NM p.bins).length<=1048576
 hn:p.bins.length<=1048576
 hw:wt p.ex<=1048576
theorem A3M (h:Hp)(m:SM)(xs:List (List AV)):C9 jA false h 85 1 [(0,.sl m 2 xs)]=some (.sl .full 1 [[.sl m 2 xs]],h):=AZ
theorem AXO (h:Hp)(a b:Int)(s:ByteArray)(m:SM)(xs:List (List AV)):C9 jA false h 23 1 [(0,.agg [.n a,.n b,.str s,.sl m 4 xs])]=some (.sl .full 4 [[.n a,.n b,.str s,.sl m 4 xs]],h):=AZ
theorem rB (h:Hp)(e:Ex):C9 jA false h 23 1 [(0,.agg (AY e))]=some (.sl .full 4 [AY e],h):=by
 rw[EY]; exact AXO h _ _ _ _ _
theorem AU8 (h:Hp)(m:SM)(xs:List (List AV)):C9 jA false h 100 1 [(0,.sl m 4 xs)]=some (.sl .full 1 [[.sl m 4 xs]],h):=AZ
theorem A08 (xs:List (List AV)):IR jA 79 [(0,.n 4),(3,.sl .full 4 xs)]=some (.agg [.n 4,.n 0,.str ⟨#[]⟩,.sl .full 4 xs]):=AZ
theorem AMZ (e:Ex):AY (notE e)=[.n 4,.n 0,.str ⟨#[]⟩,.sl .full 4 [AY e]]:=by rw[EY]; rfl
theorem AZJ {b:Nat}{x:Bin}(hb:H[b]?=some (qF 4 [H7 x])):BO jA H 85 (.ptr b 0 3)=some (.sl x.sm 1 (x.steps.map encS)):=by
 rw[BH VM hb (row:=H7 x) rfl,UG]
theorem A24 {b:Nat}(hb:H[b]?=some (qF 6 [FP p])):BO jA H 82 (.ptr b 0 0)=some (.agg (FP p)):=by
 rw[EH gK ZC hb rfl (by rw[IC]; exact jF 6),zM,<-IC p,List.take_length]
theorem AIS (h:b.ranges.l=[]):J8 b=b.steps:=by unfold J8; rw[if_pos h]
theorem ACW (h:b.ranges.l≠[]):J8 b=[b.ranges]:=by unfold J8; rw[if_neg h]
section
variable (G:Nat->AV)
theorem lW (p:Pt)(k:Nat)(hk:k<p.bins.length)(B:BdB p p.bins[k])(h:Hp):PCall (En G) 93 [.agg (FP p),.n (k:Nat)] h (.sl .any 1 ((fG FD p p.bins[k]).map gG)):=by
 have hcv:=AMH ((J8 p.bins[k]).map fun s=>FD p.ex s.l) (badO FD p);have hcl:(((J8 p.bins[k]).map fun s=>FD p.ex s.l).map fun x=>[x])=(J8 p.bins[k]).map fun s=>[FD p.ex s.l]:=by rw[wF]; rfl
 rw[hcl] at hcv;refine PCall.res ?_ (CvR.sl hcv);clear hcv hcl;refine ACalls.pure (R:=fun v H=>Sm.ext h H∧FI h.length H 4 v=.sl .any 1 (xK ((J8 p.bins[k]).map fun s=>FD p.ex s.l) (badO FD p))) 4 ?_ (fun v H ⟨a,b⟩=>⟨a,b⟩);have hb1:=B.hs; have hb2:=B.hl; have hb3:=B.hr; have hb4:=B.hb; have hb5:=B.hn; have hb6:=B.hw;refine J7 (H:=hint [61] []) (enM G) Tryz.func93 rfl (by kernel_rfl) (by kernel_rfl) (jB (by kernel_rfl)) ?_;show awp _ _ _ _ _ (NU _ [.tmp 4] _);have gp:=AL (x:=qF 4 [H7 p.bins[k]]) (AX h (qF 6 [FP p]));have gb:=AX (h++[qF 6 [FP p]]) (qF 4 [H7 p.bins[k]]);have hx:Sm.ext h (h++[qF 6 [FP p]]++[qF 4 [H7 p.bins[k]]]):=((ext.rfl' h).app _).app _;simp -implicitDefEqProofs only[vQ,zA,jY,zB,zY,CJ,Z9,TY,GK,↓reduceIte,jC,enP,WU,JV,tP,IX,jQ,A0V,AZI (AX h (qF 6 [FP p])),CG hk,CY gJ ZB KE hk,al79,st79 _ _ [.str ⟨#[]⟩,.n 0,.sl .nil 0 [],.sl .nil 0 []] rfl]
 generalize h++[qF 6 [FP p]]++[qF 4 [H7 p.bins[k]]]=H0 at gp gb hx|-
 generalize (h++[qF 6 [FP p]]).length=b5 at gb|-
 generalize p.bins[k]=b at gb hb1 hb2 hb3|-
 refine AQ (AZJ gb) (ANL gb) ?_;refine XI (fun F H=>∃s,F 2=.ptr h.length 0 0∧F 6=.sl s 1 ((J8 b).map encS)∧H=H0) (fun _ _=>False) (fun hc=>?_) (fun hc=>?_) ?_ (fun _ _ q=>q.elim)
 .have hne:b.ranges.l≠[]:=by
   intro q;rw[q] at hc; exact absurd hc DK
  refine AQ (ANL gb) A3M ?_;exact⟨_,A7,by rw[ACW hne]; exact rfl,A7⟩
 .have he:b.ranges.l=[]:=by
   have:=of_decide_eq_false hc;exact wR.1 U
  refine Z ?_;exact⟨_,A7,by rw[AIS he],A7⟩
 rintro F H ⟨s,f2,f6,rfl⟩
 generalize J8 b=S at f6 hb1 hb2 hb3|-
 refine AO f6 ?_;refine D9 0 (fun F H'=>∃v,F 2=.ptr h.length 0 0∧F 7=v∧Sm.ext H H'∧outG 1 rowF H (S.map fun s=>FD p.ex s.l) v H') (fun _ _=>False) ?_ ?_ (fun _ _ q=>q.elim)
 .refine BB (fun n F H'=>∃i v,n+i=S.length∧F 2=.ptr h.length 0 0∧F 7=v∧F 26=.sl s 1 (S.map encS)∧F 27=.n (S.length:Nat)∧F 28=.n (i:Nat)∧Sm.ext H H'∧outG 1 rowF H ((S.take i).map fun s=>FD p.ex s.l) v H') S.length
   ⟨0,.sl .nil 0 [],A8,TN f2,EX,TN f6,EX,EX,ext.rfl' _,by rw[qB]; exact outG.nil _ _ _ _⟩ ?_
  clear f2 f6;rintro n F H' ⟨i,v,hi,f2,f7,f26,f27,f28,hxH,ho⟩;refine AQ f27 f28 ?_;refine DU ?_ ?_<;>intro hi'
  .have gp':=EJ hxH gp
   have hlen:((S.take i).map fun s=>FD p.ex s.l).length<8388608:=by rw[jL,jU]; omega
   obtain⟨v',H2,ha,ho2,_,he2,_,_⟩:=ho.append (P:=jA) ALW AIJ AUG APF U hlen hxH (FD p.ex S[i].l);have ha':EP jA true H' 100 100 v (.sl .full 1 [[.sl .full 4 [AY (FD p.ex S[i].l)]]])=some (v',H2):=ha
   have hst:(S.take (i+1)).map (fun s=>FD p.ex s.l)=(S.take i).map (fun s=>FD p.ex s.l)++[FD p.ex S[i].l]:=by
    rw[jW hi',List.map_append]; rfl
   simp -implicitDefEqProofs only[vQ,zA,jY,zB,zY,CJ,↓reduceIte,jC,enP,dK,sY,IX,f2,f7,f26,f28,CG hi',BP QX hi',lH,AUR gp'];have hin:PCall (En G) 168 [.agg (AY p.ex),.sl S[i].m 2 (S[i].l.map encR)] H' (.agg (AY (FD p.ex S[i].l))):=inside_prog G p.ex S[i].l S[i].m (hb3 _ (jH hi')) hb6 H';refine hin.use ?_;refine MR f7 f28 @rB @AU8 ha' (CW i) ?_;exact⟨n-1,U,i+1,v',U,A7,A7,A7,A7,A7,he2,by rw[hst]; exact ho2⟩
  .rw[jJ U] at ho
   refine Z ?_;exact⟨v,A7,A7,hxH,ho⟩
 rintro F H' ⟨v,f2,f7,hxH,ho⟩;clear f6;have gp':=EJ hxH gp;refine AQ f2 (A24 gp') ?_;refine(APS G p hb5 hb4 H').uu ?_;have hSl:0<S.length:=qQ.2 hb1
 obtain⟨ob,rfl,hob1,hob⟩:∃ob,v=.own ob 0 S.length∧H.length<=ob∧H'[ob]?=some (qF 1 ((S.map fun s=>FD p.ex s.l).map rowF)):=by
  rcases ho with⟨e1,_⟩|⟨_,o,h1,h2,h3⟩
  .exact absurd (BL e1) hb1
  .exact⟨o,by rw[h2,jL],h1,h3⟩
 have hXl:(S.map fun s=>FD p.ex s.l).length=S.length:=A8;have hX0:(S.map fun s=>FD p.ex s.l)≠[]:=BL hb1;have hhx:=hx.trans hxH;have hl0:=hx.le
 generalize (S.map fun s=>FD p.ex s.l)=X at hob hXl hX0|-
 refine BG ?_ ?_<;>intro hc
 .have hbad:NM p.bins≠[]:=by
   intro q;rw[q] at hc; exact absurd hc DK
  have hbo:badO FD p=some (FD p.ex (NM p.bins)):=by unfold badO; rw[if_neg hbad]
  rw[hbo];have hw1:IntKind.i64.wrap (((S.length:Nat):Int)-1)=((S.length-1:Nat):Int):=by rw[wrap_i64 U U]; omega
  have hin:PCall (En G) 168 [.agg (AY p.ex),.sl (Cov.nm (NM p.bins)) 2 ((NM p.bins).map encR)] H' (.agg (AY (FD p.ex (NM p.bins)))):=inside_prog G p.ex (NM p.bins) (Cov.nm (NM p.bins)) hb4 hb6 H'
  generalize FD p.ex (NM p.bins)=y at hin|-
  have hlast:(X.map rowF)[S.length-1]?=some (rowF (L8 X)):=by
   rw[jX,<-hXl,AJR hX0]; rfl
  have i1:JM 1 H' (.own ob 0 S.length) (.n ((S.length-1:Nat):Int))=some (.ptr ob (S.length-1) 0):=by rw[IG hob U,jG]
  have d1:BO jA H' 23 (.ptr ob (S.length-1) 0)=some (.sl .full 4 [AY (L8 X)]):=by rw[BH L6 hob hlast]; rfl
  have ha:EP jA true H' 23 23 (.sl .full 4 [AY (L8 X)]) (.sl .full 4 [EQ])=some (.own H'.length 0 2,H'++[qF 4 ([AY (L8 X)]++[EQ])]) :=
   mM U5 I8 cN bZ (IE H' .full 4 [EQ]) A8 (I5 A8 U)
  have gN:=AX H' (qF 4 ([AY (L8 X)]++[EQ]));have gO:=AL (x:=qF 4 ([AY (L8 X)]++[EQ])) hob;have lob:=AB hob;have i2:JM 4 (H'++[qF 4 ([AY (L8 X)]++[EQ])]) (.own H'.length 0 2) (.n ((1:Nat):Int))=some (.ptr H'.length 1 0):=IG (n:=1) gN DK;have i3:JM 1 (H'++[qF 4 ([AY (L8 X)]++[EQ])]) (.own ob 0 S.length) (.n ((S.length-1:Nat):Int))=some (.ptr ob (S.length-1) 0):=by rw[IG gO U,jG]
  have hHx:=hhx.app [qF 4 ([AY (L8 X)]++[EQ])];generalize H'++[qF 4 ([AY (L8 X)]++[EQ])]=H2 at gN gO i2 i3 ha hHx;generalize hnb:H'.length=nb at gN i2 ha lob
  have hsN:∀Hq:Hp,Hq[nb]?=some (qF 4 ([AY (L8 X)]++[EQ]))->DX jA Hq 79 (.ptr nb 1 0) (.agg [.n 4,.n 0,.str ⟨#[]⟩,.sl .full 4 [AY y]])=some (Hq.set nb (qF 4 [AY (L8 X),AY (notE y)])):=fun Hq hq=>by
   rw[G9 (i:=1) (PI rfl) I8 hq rfl (jF 4),AMZ]; rfl
  have hsO:∀Hq:Hp,Hq[ob]?=some (qF 1 (X.map rowF))->DX jA Hq 23 (.ptr ob (S.length-1) 0) (.own nb 0 2)=some (Hq.set ob (qF 1 ((X.map rowF).set (X.length-1) [.own nb 0 2]))):=fun Hq hq=>by
   rw[G9 (cs:=[.own nb 0 2]) rfl AIJ hq hlast (by exact jF 1),hXl]; rfl
  have q1:=hsN H2 gN;have q2:=hsO (H2.set nb (qF 4 [AY (L8 X),AY (notE y)])) (DC gO U);have q3:=hsO H2 gO;have q4:=hsN (H2.set ob (qF 1 ((X.map rowF).set (X.length-1) [.own nb 0 2]))) (DC gN U);rw[List.set_comm _ _ (U:ob≠nb)] at q4;clear hsN hsO;have gF1:((H2.set nb (qF 4 [AY (L8 X),AY (notE y)])).set ob (qF 1 ((X.map rowF).set (X.length-1) [.own nb 0 2])))[ob]?=some (qF 1 ((X.map rowF).set (X.length-1) [.own nb 0 2])):=CQ (DC gO U);have gF2:((H2.set nb (qF 4 [AY (L8 X),AY (notE y)])).set ob (qF 1 ((X.map rowF).set (X.length-1) [.own nb 0 2])))[nb]?=some (qF 4 [AY (L8 X),AY (notE y)]):=DC (CQ gN) U;have hF:=(hHx.set (U:h.length<=nb) (qF 4 [AY (L8 X),AY (notE y)])).set (U:h.length<=ob) (qF 1 ((X.map rowF).set (X.length-1) [.own nb 0 2]));have hfz:=AJ5 (n:=h.length) (y:=y) U U hX0 gF1 gF2;refine DI f7 @eV.2 hw1 ?_;refine AB1 [] [0,1,2,3,4,5,6,7,8,9,10,11,12,13,15] 14 16 [] AZ trivial ?_;simp only[NC,List.getElem?_cons_succ,List.getElem?_cons_zero];refine JL f2 f7 i1 d1 (AUR gp') ?_;refine⟨_,hin,?_⟩
  try simp -implicitDefEqProofs only[vQ,LC,KD,zA,jY,zB,zY,PG,aJ,KX,P8,IL,CJ,P9,GH,JX,↓reduceIte,jC,Nat.reduceAdd,enP,PK,ANF,AGS,IX,jQ,rB,A08,A1F,AU7,ha,i2,i3,zH,zN,q1,q2,q3,q4]
  rw[f7,<-hXl,hfz];exact⟨⟨hF,rfl⟩,hF,rfl⟩
 .have hbad:NM p.bins=[]:=by
   have:=of_decide_eq_false hc;exact wR.1 U
  have hbo:badO FD p=none:=by unfold badO; rw[if_pos hbad]
  rw[hbo];refine AO f7 ?_;refine⟨hhx,?_⟩;have:=frz_own (d:=2) AG0 (n:=h.length) (U:h.length<=ob) hob;rw[hXl] at this;exact this
end
def SI (l:List Ex):List AV:=AU4 ⟨Cov.nm l,l⟩
def VU (c:List (List Ex)):List AV:=[.sl .any 1 (c.map gG)]
theorem AO1 (c:List (List Ex)):(VU c)[0]?=some (.sl .any 1 (c.map gG)):=rfl
theorem A0D (l:List Ex):(gG l)[0]?=some (.sl .any 4 (l.map AY)):=rfl
structure OL (n0:Nat) (H:Hp) (ob n:Nat) (v:Nat->AV) (X:Nat->List Ex):Prop where
 gob:H[ob]?=some (qF 1 ((zI n).map fun t=>[v t]))
 lo:n0<=ob
 each:∀t,t<n->(X t=[]∧v t=.sl .nil 0 [])∨(X t≠[]∧∃o,n0<=o∧v t=.own o 0 (X t).length∧H[o]?=some (qF 4 ((X t).map AY)))
 ap:∀t u b,t<n->u<n->isB (v t) b->isB (v u) b->t=u
 ne:∀t b,t<n->isB (v t) b->b≠ob
def aW {α:Type}(f:Nat->α)(a:Nat)(x:α)(t:Nat):α:=if t=a then x else f t
theorem AI7 {a:Nat}{x:AV}(_ha:a<n):((zI n).map fun t=>[v t]).set a [x]=(zI n).map fun t=>[aW v a x t]:=by
 apply List.ext_getElem
 .simp
 intro i h1 h2;rw[List.getElem_set];simp only[List.getElem_map,List.getElem_range,aW];by_cases e:a=i
 .rw[if_pos e,if_pos e.symm]
 .rw[if_neg e,if_neg (Ne.symm e)]
theorem cZ {n0:Nat}{X:List Ex}{v:AV}(hl:n0=h.length):((X=[]∧v=.sl .nil 0 [])∨(X≠[]∧∃o,n0<=o∧v=.own o 0 X.length∧H[o]?=some (qF 4 (X.map AY))))↔outG 4 AY h X v H:=by subst hl; exact Iff.rfl
theorem OL.app {ob a:Nat}{X:Nat->List Ex}(O:OL h.length H ob n v X)(ha:a<n)(hx:ext h H)(s:SM)(ys:List Ex)(hl:(X a).length+ys.length<=8388608):
  ∃ v' H',EP jA true H 23 23 (v a) (.sl s 4 (ys.map AY))=some (v',H')∧H'[ob]?=some (qF 1 ((zI n).map fun t=>[v t]))∧IB v'=some [v'] ∧
    OL h.length (H'.set ob (qF 1 ((zI n).map fun t=>[aW v a v' t]))) ob n (aW v a v') (aW X a (X a++ys))∧ext h (H'.set ob (qF 1 ((zI n).map fun t=>[aW v a v' t]))):=by
 obtain⟨v',H',h1,h2,h3,h4,h5,h6⟩:=X4 (P:=jA) s ((cZ rfl).1 (O.each a ha)) U5 I8 cN bZ U (ys:=ys) hl hx;have lob:=AB O.gob;have g1:=h3 _ _ O.gob (fun q=>O.ne a _ ha q rfl)
 have hlt:∀t b,t<n->isB (v t) b->b<H.length:=fun t b ht hb=>((cZ rfl).1 (O.each t ht)).lt hb |>.2
 have hne':∀b,isB v' b->b≠ob:=fun b hb=>by
  rcases h6 b hb with q|q
  .exact O.ne a b ha q
  .omega
 have hac:IB v'=some [v']:=by
  rcases h2 with⟨_,rfl⟩|⟨_,o,_,rfl,_⟩<;>rfl
 refine⟨v',H',h1,g1,hac,⟨CQ g1,O.lo,fun t ht=>?_,fun t u b ht hu h7 h8=>?_,fun t b ht hb=>?_⟩,h4.set O.lo _⟩
 .by_cases e:t=a
  .subst e
   simp only[aW,if_true];exact(cZ rfl).2 (h2.keep fun b hb=>by rw[zL (Ne.symm (hne' b hb))])
  .simp only[aW,if_neg e]
   refine(cZ rfl).2 (((cZ rfl).1 (O.each t ht)).keep fun b hb=>?_);rw[zL (Ne.symm (O.ne t b ht hb))];rcases O.each t ht with⟨_,q⟩|⟨_,o,_,q,q2⟩
   .rw[q] at hb; exact hb.elim
   .rw[q] at hb; cases hb
    rw[q2];exact h3 _ _ q2 fun q3=>e (O.ap t a _ ht ha (by rw[q]; rfl) q3)
 .simp only[aW] at h7 h8
  by_cases e1:t=a<;>by_cases e2:u=a
  .rw[e1,e2]
  .rw[if_pos e1] at h7; rw[if_neg e2] at h8
   rcases h6 b h7 with q|q
   .exact e1.trans (O.ap a u b ha hu q h8)
   .have:=hlt u b hu h8; omega
  .rw[if_neg e1] at h7; rw[if_pos e2] at h8
   rcases h6 b h8 with q|q
   .exact(O.ap t a b ht ha h7 q).trans e2.symm
   .have:=hlt t b ht h7; omega
  .rw[if_neg e1] at h7; rw[if_neg e2] at h8
   exact O.ap t u b ht hu h7 h8
 .simp only[aW] at hb
  by_cases e1:t=a
  .rw[if_pos e1] at hb; exact hne' b hb
  .rw[if_neg e1] at hb; exact O.ne t b ht hb
theorem OL.frz {n0:Nat}{ob:Nat}{X:Nat->List Ex}(O:OL n0 H ob n v X)(h:Hp)(hl:n0=h.length):FI h.length H 4 (.own ob 0 n)=.sl .any 1 ((zI n).map fun t=>[fzG 4 AY (X t)]):=by
 subst hl
 have hm:((zI n).map fun t=>[v t]).map (·.map (FI h.length H 3))=(zI n).map fun t=>[fzG 4 AY (X t)]:=by
  rw[wF];refine List.map_congr_left fun t ht=>?_
  have ht':t<n:=BL ht;show [FI h.length H 3 (v t)]=_;rw[NG frzEx ((cZ rfl).1 (O.each t ht')) h.length 1 (jF _)]
 rw[Cov.frzF_own h.length H 3 ob 0 n 1 _ (by have:=O.lo; omega) O.gob,zM,jJ A8,hm];rw[if_pos];refine⟨A8,?_⟩;rw[zJ];intro row hr;obtain⟨t,_,rfl⟩:=qE.1 hr;cases X t<;>rfl
theorem AU1 (l:List Ex):CvRow [fzG 4 AY l] (SI l):=by
 cases l with
 | nil=>exact CvRow.cons rfl (Cv.nil 0 4) CvRow.nil
 | cons x xs=>exact CvRow.cons rfl (Cv.refl _) CvRow.nil
def rowP (n i t:Nat)(c:List (List Ex)):List Ex:=if n-c.length<=t∧t<n-c.length+i then c[t-(n-c.length)]?.getD [] else []
theorem AIZ (n t:Nat)(c:List (List Ex)):rowP n 0 t c=[]:=by unfold rowP; rw[if_neg U]
theorem AI0 (ht:t<n)(hc:c.length<=n):rowP n c.length t c=sK n t c:=by
 unfold rowP sK;by_cases h:n-c.length<=t
 .rw[if_pos ⟨h,U⟩,if_pos h]
 .rw[if_neg U,if_neg h]
theorem AI2 (n t:Nat)(cs:List (List (List Ex)))(j:Nat)(hj:j<cs.length):rowA n (cs.take (j+1)) t=rowA n (cs.take j) t++sK n t cs[j]:=by
 unfold rowA;rw[jW hj,List.flatMap_append]; simp
theorem AMI {B:Nat}(h:∀r∈c,r.length<=B):(sK n t c).length<=B:=by
 unfold sK;split
 .cases hx:c[t-(n-c.length)]? with
  | none=>exact qG _
  | some r=>exact h r (zU hx)
 .exact qG _
theorem iW {n t B:Nat}:∀ {cs:List (List (List Ex))},(∀c∈cs,∀r∈c,r.length<=B)->(rowA n cs t).length<=B*cs.length
 | [],_=>by simp [rowA]
 | c::cs,h=>by
   have h1:=AMI (n:=n) (t:=t) (h c A8);have h2:=iW (n:=n) (t:=t) (cs:=cs) fun c hc=>h c (by simp [hc])
   show(sK n t c++rowA n cs t).length<=_;rw[jS,zH,Nat.mul_add]; omega
theorem A23 (h:Hp)(n:Nat)(hn:n<=1048576):GL jA true h 100 (.n (n:Int)) (.n (n:Int))=some (.own h.length 0 n,h++[qF 1 ((zI n).map fun _=>[.sl .nil 0 []])]):=by
 have hz:MB jA 23=some [.sl .nil 0 []]:=AZ;have hr:room n 24:=I5 U U;unfold GL;simp only[ALW,AIJ,APF,hz,Int.toNat_natCast];rw[if_pos ⟨U,Int.le_refl _,hr,rfl⟩];have e:(zI n).map (fun _=>[AV.sl .nil 0 []])=List.replicate n [.sl .nil 0 []]:=by rw[List.map_const',List.length_range]
 rw[e]; rfl
theorem rowP_step {i:Nat}(hc:c.length<=n)(hi:i<c.length)(_ht:t<n):rowP n (i+1) t c=if t=n-c.length+i then c[i] else rowP n i t c:=by
 unfold rowP;by_cases e:t=n-c.length+i
 .rw[if_pos e,if_pos U,show t-(n-c.length)=i by omega,jI hi]; rfl
 .rw[if_neg e]
  by_cases h:n-c.length<=t∧t<n-c.length+i
  .rw[if_pos h,if_pos U]
  .rw[if_neg h,if_neg U]
section
variable (G:Nat->AV)
theorem uS (cs:List (List (List Ex)))(s:SM)(hcs:cs.length<=1048576)(hl:∀c∈cs,c.length<=1048576)(hr:∀c∈cs,∀r∈c,r.length<=2)(h:Hp):PCall (En G) 95 [.sl s 1 (cs.map VU)] h (.sl .any 1 ((OY cs).map SI)):=by
 have hcv:Cv (.sl .any 1 ((zI (VD cs)).map fun t=>[fzG 4 AY (rowA (VD cs) cs t)])) (.sl .any 1 ((OY cs).map SI)):=by
  unfold OY;rw[wF];exact Cv.map fun t _=>AU1 _
 refine PCall.res ?_ (CvR.sl hcv);clear hcv;refine ACalls.pure (R:=fun v H=>Sm.ext h H∧FI h.length H 4 v=.sl .any 1 ((zI (VD cs)).map fun t=>[fzG 4 AY (rowA (VD cs) cs t)])) 4 ?_ (fun v H ⟨a,b⟩=>⟨a,b⟩);have hnb:VD cs<=1048576:=ZO cs 0 _ (qG _) hl;refine acT Tryz.func95 2 ?_;refine AO AUN ?_;refine D9 0 (fun F H'=>F 0=.sl s 1 (cs.map VU)∧F 3=.n (VD cs:Nat)∧H'=h) (fun _ _=>False) ?_ ?_ (fun _ _ q=>q.elim)
 .refine BB (fun n F H'=>∃i,n+i=cs.length∧F 0=.sl s 1 (cs.map VU)∧F 3=.n (VD (cs.take i):Nat)∧F 12=.sl s 1 (cs.map VU)∧F 13=.n (cs.length:Nat)∧F 14=.n (i:Nat)∧H'=h) cs.length
   ⟨0,A8,AC,AC,AC,AC,AC,rfl⟩ ?_
  rintro n F H ⟨i,hi,f0,f3,f12,f13,f14,rfl⟩;refine AQ f13 f14 ?_;refine DU ?_ ?_<;>intro hi'
  .have hm:max ((VD (cs.take i):Nat):Int) ((cs[i].length:Nat):Int)=((VD (cs.take (i+1)):Nat):Int):=by rw[AJQ cs i hi']; omega
   simp -implicitDefEqProofs only[vQ,CJ,ALN,ADP,↓reduceIte,jC,enP,eV,AUU,f3,f12,f14,CG hi',BP AVK hi',AO1,jL,hm,CW i];exact⟨n-1,U,i+1,U,A7,A7,A7,A7,A7,A7⟩
  .rw[jJ U] at f3
   refine Z ?_;exact⟨A7,A7,A7⟩
 rintro F H ⟨f0,f3,rfl⟩;generalize hN:VD cs=N at *;have g0:=AX H (qF 1 ((zI N).map fun _=>[AV.sl .nil 0 []]))
 have O0:OL H.length (H++[qF 1 ((zI N).map fun _=>[AV.sl .nil 0 []])]) H.length N (fun _=>.sl .nil 0 []) (fun _=>[]) :=
  ⟨g0,jF _,fun t _=>.inl ⟨rfl,rfl⟩,fun t u b _ _ q=>q.elim,fun t b _ q=>q.elim⟩
 have hx0:Sm.ext H (H++[qF 1 ((zI N).map fun _=>[AV.sl .nil 0 []])]):=(ext.rfl' H).app _;refine EO AUN f0 f3 (A23 H N hnb) ?_
 generalize H++[qF 1 ((zI N).map fun _=>[AV.sl .nil 0 []])]=H0 at O0 hx0|-
 refine BB (fun n F H'=>∃j v X,n+j=cs.length∧F 3=.n (N:Nat)∧F 6=.own H.length 0 N∧F 25=.sl s 1 (cs.map VU)∧F 26=.n (cs.length:Nat)∧F 27=.n (j:Nat)∧OL H.length H' H.length N v X∧(∀t,t<N->X t=rowA N (cs.take j) t)∧Sm.ext H H') cs.length
  ⟨0,_,_,A8,DW f3,AC,AC,AC,AC,O0,fun t _=>by rw[qB]; rfl,hx0⟩ ?_
 clear O0 hx0 f0 f3 g0;rintro n F H1 ⟨j,v,X,hj,f3,f6,f25,f26,f27,O,hX,hx⟩;refine AQ f26 f27 ?_;refine DU ?_ ?_<;>intro hj'
 .have hcN:cs[j].length<=N:=by rw[<-hN]; exact ANI (jH hj')
  have hrj:=hr _ (jH hj')
  have hrt:∀t,(rowA N (cs.take j) t).length<=2*j:=fun t=>by
   have:=iW (n:=N) (t:=t) (B:=2) (cs:=cs.take j) fun c hc=>hr c (List.mem_of_mem_take hc)
   rw[jU,Nat.min_eq_left U] at this; exact this
  have hst:∀t,rowA N (cs.take (j+1)) t=rowA N (cs.take j) t++sK N t cs[j]:=fun t=>AI2 N t cs j hj'
  simp -implicitDefEqProofs only[vQ,CJ,↓reduceIte,jC,enP,eV,AUU,f25,f27,CG hj',BP AVK hj',AO1,jL]
  generalize cs[j]=c at hcN hrj hst|-
  refine D9 4 (fun F H'=>∃v X,F 3=.n (N:Nat)∧F 6=.own H.length 0 N∧F 25=.sl s 1 (cs.map VU)∧F 26=.n (cs.length:Nat)∧F 27=.n (j:Nat)∧OL H.length H' H.length N v X∧(∀t,t<N->X t=rowA N (cs.take (j+1)) t)∧Sm.ext H H') (fun _ _=>False) ?_ ?_ (fun _ _ q=>q.elim)
  .refine BB (fun n F H'=>∃i v X,n+i=c.length∧F 3=.n (N:Nat)∧F 6=.own H.length 0 N∧F 8=.sl .any 1 (c.map gG)∧F 25=.sl s 1 (cs.map VU)∧F 26=.n (cs.length:Nat)∧F 27=.n (j:Nat)∧F 31=.sl .any 1 (c.map gG)∧F 32=.n (c.length:Nat)∧F 33=.n (i:Nat)∧OL H.length H' H.length N v X∧(∀t,t<N->X t=rowA N (cs.take j) t++rowP N i t c)∧Sm.ext H H') c.length
    ⟨0,v,X,A8,DW f3,DW f6,AC,DW f25,DW f26,DW f27,AC,AC,AC,O,fun t ht=>by rw[AIZ,jO]; exact hX t ht,hx⟩ ?_
   clear f3 f6 f25 f26 f27 O hX hx;rintro n2 F H2 ⟨i,v,X,hi,f3,f6,f8,f25,f26,f27,f31,f32,f33,O,hX,hx⟩;refine AQ f32 f33 ?_;refine BG ?_ ?_<;>intro hd
   .have hi':i<c.length:=BL hd
    have ha:N-c.length+i<N:=U
    have hlen:(X (N-c.length+i)).length+c[i].length<=8388608:=by
     have h1:=hrt (N-c.length+i);have h2:=hrj _ (jH hi');rw[hX _ ha,jS];have h3:rowP N i (N-c.length+i) c=[]:=by unfold rowP; rw[if_neg U]
     rw[h3,zN]; omega
    obtain⟨v',H3,a1,a2,a3,O2,hx2⟩:=O.app ha hx .any c[i] hlen;have hw1:IntKind.i64.wrap (((N:Nat):Int)-((c.length:Nat):Int))=((N-c.length:Nat):Int):=by rw[wrap_i64 U U]; omega
    have hw2:IntKind.i64.wrap (((N-c.length:Nat):Int)+((i:Nat):Int))=((N-c.length+i:Nat):Int):=by rw[wrap_i64 U U]; omega
    have i1:JM 1 H2 (.own H.length 0 N) (.n ((N-c.length+i:Nat):Int))=some (.ptr H.length (N-c.length+i) 0):=by rw[IG O.gob ha,jG]
    have hrow:∀f:Nat->AV,((zI N).map fun t=>[f t])[N-c.length+i]?=some [f (N-c.length+i)]:=fun f=>by
     rw[jX,List.getElem?_range ha]; rfl
    have d1:BO jA H2 23 (.ptr H.length (N-c.length+i) 0)=some (v (N-c.length+i)):=by rw[BH L6 O.gob (hrow v)]; rfl
    have i2:JM 1 H3 (.own H.length 0 N) (.n ((N-c.length+i:Nat):Int))=some (.ptr H.length (N-c.length+i) 0):=by rw[IG a2 ha,jG]
    have s1:DX jA H3 23 (.ptr H.length (N-c.length+i) 0) v'=some (H3.set H.length (qF 1 ((zI N).map fun t=>[aW v (N-c.length+i) v' t]))):=by
     rw[G9 (cs:=[v']) a3 AIJ a2 (hrow v) (by exact jF 1),<-AI7 ha]; rfl
    have hX2:∀t,t<N->aW X (N-c.length+i) (X (N-c.length+i)++c[i]) t=rowA N (cs.take j) t++rowP N (i+1) t c:=fun t ht=>by
     rw[rowP_step hcN hi' ht];by_cases e:t=N-c.length+i
     .rw[if_pos e]
      simp only[aW,if_pos e];rw[hX _ ha,<-e];have h3:rowP N i t c=[]:=by unfold rowP; rw[if_neg U]
      rw[h3,jO]
     .rw[if_neg e]
      simp only[aW,if_neg e];exact hX t ht
    simp -implicitDefEqProofs only[vQ,CJ,JX,NW,↓reduceIte,jC,enP,AGS,eV,jQ,f3,f6,f8,f31,f33,CG hi',BP L6 hi',A0D,jL,hw1,hw2,i1,d1,a1,i2,s1,CW i];exact⟨n2-1,U,i+1,_,_,U,A7,A7,A7,A7,A7,A7,A7,A7,A7,O2,hX2,hx2⟩
   .have hi':i=c.length:=by have:¬i<c.length:=BL hd
                            omega
    subst hi';refine Z ?_;exact⟨v,X,A7,A7,A7,A7,A7,O,fun t ht=>by rw[hX t ht,hst,AI0 ht hcN],hx⟩
  .clear f3 f6 f25 f26 f27 O hX hx
   rintro F H2 ⟨v,X,f3,f6,f25,f26,f27,O,hX,hx⟩;refine AQ f27 (CW j) ?_;exact⟨n-1,U,j+1,v,X,U,A7,A7,A7,A7,A7,O,hX,hx⟩
 .rw[jJ U] at hX
  refine AO f6 ?_;refine⟨hx,?_⟩;rw[O.frz H rfl];congr 1;refine List.map_congr_left fun t ht=>?_
  rw[hX t (BL ht)]
end
def growR_ren:Go.Shelf.Ren:=⟨fun|4=>98|n=>n,fun|22=>23|25=>79|3=>3|4=>4|9=>9|20=>20|0=>0|n=>n,fun|n=>n⟩
theorem growR:Go.Proofs.Lays8.n4 jA growR_ren := {
 mixed:=AZ,
 f4:=⟨Tryz.f98.name,by decide,Tryz.func98.trans (congrArg some AZ)⟩,
 t0:=Tryz.underlying0,
 a0:=Tryz.isAgg0,
 z0:=Tryz.sizeOf0,
 v0:=Tryz.zeroValue0,
 t3:=Tryz.underlying3,
 a3:=Tryz.isAgg3,
 z3:=Tryz.sizeOf3,
 v3:=Tryz.zeroValue3,
 t4:=Tryz.underlying4,
 a4:=Tryz.isAgg4,
 z4:=Tryz.sizeOf4,
 v4:=Tryz.zeroValue4,
 t9:=Tryz.underlying9,
 a9:=Tryz.isAgg9,
 z9:=Tryz.sizeOf9,
 v9:=Tryz.zeroValue9,
 t20:=Tryz.underlying20,
 a20:=Tryz.isAgg20,
 z20:=Tryz.sizeOf20,
 v20:=Tryz.zeroValue20,
 t22:=Tryz.underlying23,
 a22:=Tryz.isAgg23,
 z22:=Tryz.sizeOf23,
 v22:=Tryz.zeroValue23 }
theorem zc_size (z:Array Value)(n:Nat):(Builtin.zeroCells z n).size=n*z.size:=by simp [Builtin.zeroCells]
theorem grow_prog (G:Nat->AV)(n:Nat)(hn:n<=1048576)(h:Hp):ACalls (En G) 98 [.sl .nil 0 [],.n (n:Nat)] h fun v H=>(n=0∧v=.sl .nil 0 []∧H=h)∨(0<n∧v=.own h.length 0 0∧H=h++[qF 4 []]):=by
 refine⟨cok 98 G AZ,fun g w cargs S ha=>?_⟩;obtain⟨hsz,hget⟩:=ha
 obtain⟨cv0,cv1,rfl⟩:∃a b,cargs = #[a,b]:=by
  obtain⟨l⟩:=cargs
  match l,hsz with
  | [a,b],_=>exact⟨a,b,rfl⟩
 have r0:=(hget 0 _ cv0 rfl rfl).sl_inv;obtain rfl:=(hget 1 _ cv1 rfl rfl).int_inv
 have hnil:cv0=.slice none 0 0:=by
  cases r0 with
  | nil=>rfl
  | empty _ _ _ _ q=>exact absurd rfl q
  | sl _ _ _ _ _ _ _ _ _ _ _ q=>exact absurd rfl q
 subst hnil;rcases Nat.eq_zero_or_pos n with h0|h0
 .subst h0
  refine(Any8.slices_Grow_room growR none 0 0 0 w (jF _) U U (jF _)).mono ?_;rintro e w' ⟨rfl,rfl⟩;exact .inl ⟨_,_,g,h,rfl,.inl ⟨rfl,rfl,rfl⟩,Gh.le.refl g,S,.fro (.nil 0)⟩
 .have i0:Tryz.prog.info? 79=some Tryz.t79:=AZ
  have hz:Tryz.t79.zero.isSome=true:=AZ;obtain⟨z,hz⟩:=Option.isSome_iff_exists.1 hz;have hs:Tryz.t79.size=4:=AZ;have hb:Tryz.t79.bytes<=64:=jB AZ;have hmul:n*Tryz.t79.bytes<=1048576*64:=Nat.mul_le_mul hn hb
  have hzs:z.cells.size=4:=by
   have h1:(Tryz.t79.zero.map fun z=>z.cells.size)=some 4:=AZ;rw[hz] at h1; simpa using h1
  have hc:=Any8.slices_Grow_grow growR Tryz.t79 z i0 hz (by rw[hs]; omega) none 0 0 n [] w (jF _) U (by rw[jG]; omega) U A8 (fun _=>rfl) (fun a q=>by cases q);refine hc.mono ?_;rintro e w' ⟨rfl,rfl⟩;generalize hG:grownCap w (0+n) 0 (growR_ren.t 25)=cap;have hle:0+n<=cap:=hG▸grownCap_ge w _ _ _;have hgr:Grew w (w.drew.alloc (.cells ((#[]:Array Value)++Builtin.zeroCells z.cells (0+n-0)++Builtin.zeroCells z.cells (cap-(0+n))) (growR_ren.t 25))) (.cells ((#[]:Array Value)++Builtin.zeroCells z.cells (0+n-0)++Builtin.zeroCells z.cells (cap-(0+n))) (growR_ren.t 25) (0,0)):=⟨rfl,rfl,rfl,rfl⟩
  have hsize:((#[]:Array Value)++Builtin.zeroCells z.cells (0+n-0)++Builtin.zeroCells z.cells (cap-(0+n))).size=cap*4:=by
   simp only[Array.size_append,zc_size,hzs,List.size_toArray,zN]; omega
  generalize ((#[]:Array Value)++Builtin.zeroCells z.cells (0+n-0)++Builtin.zeroCells z.cells (cap-(0+n)))=c at hgr hsize;obtain⟨S',hle'⟩:=S.new (k:=4) (xs:=[]) hgr ⟨A8,fun i row h=>by simp at h,fun i j row v h=>by simp at h⟩;refine .inl ⟨_,_,_,_,rfl,.inr ⟨h0,rfl,rfl⟩,hle',S',?_⟩;exact Rep.own h.length 0 0 cap ⟨w.heap.size,0,4,c.size⟩ (by simp [Gh.adopt]) (qG _) (by simp only[hsize]; omega)
theorem AU3 (l:List Ex):(SI l)[0]?=some (.sl (Cov.nm l) 4 (l.map AY)):=rfl
theorem flat_take {R:List (List Ex)}{i:Nat}(hi:i<R.length):(R.take (i+1)).flatten=(R.take i).flatten++R[i]:=by
 rw[jW hi,List.flatten_append]; simp
theorem flat_take_le (R:List (List Ex))(i:Nat):(R.take i).flatten.length<=R.flatten.length:=by
 have:R.flatten=(R.take i).flatten++(R.drop i).flatten:=by rw[<-List.flatten_append,List.take_append_drop]
 rw[this,jS]; omega
def outK (h:Hp)(ys:List Ex)(v:AV)(H:Hp):Prop:=(v=.sl .nil 0 []∧ys=[])∨∃o,h.length<=o∧v=.own o 0 ys.length∧H[o]?=some (qF 4 (ys.map AY))
theorem outK_app {xs ys:List Ex}{v:AV}(s:SM)(ho:outK h xs v H)(he:ext h H)(hl:xs.length+ys.length<=8388608):
  ∃v' H',EP jA true H 23 23 v (.sl s 4 (ys.map AY))=some (v',H')∧outK h (xs++ys) v' H'∧ext h H'∧(v=.sl .nil 0 []->ys=[]->v'=.sl .nil 0 []):=by
 cases ys with
 | nil =>
   refine⟨v,H,?_,by rw[jO]; exact ho,he,fun q _=>q⟩;have hcs:JF H (.sl s 4 [])=some (4,[]):=IE H s 4 [];rcases ho with⟨rfl,rfl⟩|⟨o,h2,rfl,h3⟩
   .simp [EP,U5,I8,RX,hcs,bump]
   .have hc:JF H (.own o 0 xs.length)=some (4,xs.map AY):=by rw[J6 h3 A8,zM,jJ A8]
    simp [EP,U5,I8,RX,hc,hcs,bump]
 | cons y ys =>
   have h1:(y::ys).map AY≠[]:=A8;rcases ho with⟨rfl,rfl⟩|⟨o,h2,rfl,h3⟩
   .exact⟨_,_,VL U5 I8 cN bZ (IE H s 4 ((y::ys).map AY)) h1 (I5 (by simp at hl|-; omega) U),.inr ⟨H.length,he.le,A8,A8⟩,he.app _,fun _ q=>by cases q⟩
   .have hc:JF H (.own o 0 xs.length)=some (4,xs.map AY):=by rw[J6 h3 A8,zM,jJ A8]
    exact⟨_,_,TK U5 I8 cN bZ hc (IE H s 4 ((y::ys).map AY)) h1 (I5 (by simp at hl|-; omega) U),.inr ⟨H.length,he.le,A8,A8⟩,(he.set h2 _).app _,fun q=>by cases q⟩
section
variable (G:Nat->AV)
theorem concat_prog (R:List (List Ex))(s:SM)(hR:R.length<=1048576)(hl:R.flatten.length<=1048576)(h:Hp):PCall (En G) 45 [.sl s 1 (R.map SI)] h (.sl (Cov.nm R.flatten) 4 (R.flatten.map AY)):=by
 refine KT frzEx ?_;refine acT Tryz.func45 2 ?_;refine Z ?_;refine D9 0 (fun F H'=>F 0=.sl s 1 (R.map SI)∧F 3=.n (R.flatten.length:Nat)∧H'=h) (fun _ _=>False) ?_ ?_ (fun _ _ q=>q.elim)
 .refine BB (fun n F H'=>∃i,n+i=R.length∧F 0=.sl s 1 (R.map SI)∧F 3=.n ((R.take i).flatten.length:Nat)∧F 9=.sl s 1 (R.map SI)∧F 10=.n (R.length:Nat)∧F 11=.n (i:Nat)∧H'=h) R.length
   ⟨0,A8,AC,AC,AC,AC,AC,rfl⟩ ?_
  rintro n F H ⟨i,hi,f0,f3,f9,f10,f11,rfl⟩;refine AQ f10 f11 ?_;refine DU ?_ ?_<;>intro hi'
  .have hfl:=flat_take hi'
   have hle:=flat_take_le R (i+1);rw[hfl,jS] at hle;have hw:IntKind.i64.wrap ((((R.take i).flatten.length:Nat):Int)+((R[i].length:Nat):Int))=(((R.take (i+1)).flatten.length:Nat):Int):=by rw[hfl,jS,wrap_i64 U U]; omega
   refine QZ f3 f9 f11 hi' @AU3 hw @ltz_false (CW i) ?_;exact⟨n-1,U,i+1,U,A7,A7,A7,A7,A7,A7⟩
  .rw[jJ U] at f3
   refine Z ?_;exact⟨A7,A7,A7⟩
 rintro F H ⟨f0,f3,rfl⟩;refine AO f3 ?_;refine(grow_prog G R.flatten.length hl H).mono ?_;intro v0 H0 hg
 have I0:outK H [] v0 H0∧Sm.ext H H0∧(R.flatten.length=0->v0=.sl .nil 0 []):=by
  rcases hg with⟨h0,rfl,rfl⟩|⟨h0,rfl,rfl⟩
  .exact⟨.inl ⟨rfl,rfl⟩,ext.rfl' _,fun _=>rfl⟩
  .exact⟨.inr ⟨H.length,jF _,rfl,AX _ _⟩,(ext.rfl' H).app _,fun q=>U⟩
 refine AO f0 ?_
 refine BB (fun n F H'=>∃i v,n+i=R.length∧F 6=v∧F 25=.sl s 1 (R.map SI)∧F 26=.n (R.length:Nat)∧F 27=.n (i:Nat)∧outK H (R.take i).flatten v H'∧Sm.ext H H'∧(R.flatten.length=0->v=.sl .nil 0 [])) R.length
  ⟨0,v0,A8,AC,AC,AC,AC,by rw[qB]; exact I0.1,I0.2.1,I0.2.2⟩ ?_
 clear I0 hg f0 f3;rintro n F H' ⟨i,v,hi,f6,f25,f26,f27,ho,hx,hz⟩;refine AQ f26 f27 ?_;refine DU ?_ ?_<;>intro hi'
 .have hfl:=flat_take hi'
  have hle:=flat_take_le R (i+1);rw[hfl,jS] at hle;obtain⟨v',H2,ha,ho2,hx2,hn2⟩:=outK_app (Cov.nm R[i]) ho hx (ys:=R[i]) U;rw[<-hfl] at ho2;refine NZ f6 f25 f27 hi' @AU3 ha (CW i) ?_;exact⟨n-1,U,i+1,v',U,A7,A7,A7,A7,ho2,hx2,fun q=>hn2 (hz q) (wR.1 U)⟩
 .rw[jJ U] at ho
  refine AO f6 ?_;refine⟨hx,?_⟩;rcases ho with⟨h1,h2⟩|⟨o,h1,h2,h3⟩
  .exact .inl ⟨h2,h1⟩
  .refine .inr ⟨fun q=>?_,o,h1,h2,h3⟩
   have:=hz (by rw[q]; rfl);rw[this] at h2; cases h2
end
theorem vC (op n:Int)(name:ByteArray)(m:SM)(args:List Ex):wt (.mk op n name m args)=name.size+1+wts args:=MH _
theorem nsz:(⟨#[]⟩:ByteArray).size=0:=rfl
theorem ALO (n:Int):wt (cE n)=1:=by unfold cE; rw[vC,nsz]; rfl
theorem AFI:∀l:List Rng,wts (cEs l)=2*l.length
 | []=>rfl
 | a::l=>by
   rw[XK];simp only[wts,ALO,AFI l,zH]; omega
theorem AFL (e:Ex)(l:List Rng):wt (JI e l)=1+wt e+2*l.length:=by
 rw[YA,vC,nsz];unfold insL;simp only[wts,AFI]; omega
theorem AVP (a b:Ex):wt (orE a b)=1+wt a+wt b:=by
 unfold orE;rw[vC,nsz]; simp only[wts]; omega
theorem AFK (a:Ex):wt (notE a)=1+wt a:=by
 unfold notE;rw[vC,nsz]; simp only[wts]; omega
theorem QK (L:List Rng)(k:Nat):(part L k).length<=16:=by unfold part; rw[jU]; omega
theorem AFJ (e:Ex)(L:List Rng):∀k,wt (OG e L k)<=(k+1)*(wt e+34)
 | 0=>by
   have:=QK L 0;show wt (JI e (part L 0))<=_;rw[AFL]; omega
 | k+1=>by
   have:=QK L (k+1);have ih:=AFJ e L k;show wt (orE (OG e L k) (JI e (part L (k+1))))<=_;rw[AVP,AFL,Nat.add_mul (k+1) 1]; omega
theorem iG:∀l:List Ex,(∀e∈l,wt (cpE e)=wt e)->wts (l.map cpE)=wts l
 | [],_=>rfl
 | e::l,h=>by
   simp only[jK,wts];rw[h e A8,iG l fun e he=>h e (by simp [he])]
theorem AVQ (e:Ex):wt (cpE e)=wt e:=by
 induction e using Ex.induct with|h e ih=>?_
 rw[dU,vC,iG _ ih,MH e]
theorem mem_pres {x:Ex}:∀ {xs:List Ex},x∈E8 xs↔∃a∈xs,x∈pre a
 | []=>by simp [E8]
 | a::xs=>by simp [E8,mem_pres (xs:=xs)]
def NmB (N:Nat)(e:Ex):Prop:=∀x∈pre e,x.name.size<=N
theorem NmB.mk {N:Nat}{op n:Int}{name:ByteArray}{m:SM}{args:List Ex}(h:name.size<=N)(ha:∀a∈args,NmB N a):NmB N (.mk op n name m args):=fun x hx=>by
 rw[pre_eq] at hx;rcases zK.1 hx with rfl|hx
 .exact h
 .obtain⟨a,h1,h2⟩:=mem_pres.1 hx
  exact ha a h1 x h2
theorem aC (N:Nat)(n:Int):NmB N (cE n):=NmB.mk (qG _) fun a h=>by cases h
theorem ACF (h:NmB N e)(l:List Rng):NmB N (JI e l):=by
 rw[YA];refine NmB.mk (qG _) fun a ha=>?_
 rcases zK.1 ha with rfl|ha
 .exact h
 .unfold cEs at ha
  obtain⟨r,_,hr⟩:=List.mem_flatMap.1 ha;rcases zK.1 hr with rfl|hr
  .exact aC N _
  .rw[qP.1 hr]; exact aC N _
theorem AT8 {a b:Ex}(h1:NmB N a)(h2:NmB N b):NmB N (orE a b):=NmB.mk (qG _) fun x hx=>by
 rcases zK.1 hx with rfl|hx
 .exact h1
 .rw[qP.1 hx]; exact h2
theorem AQF {a:Ex}(h1:NmB N a):NmB N (notE a):=NmB.mk (qG _) fun x hx=>by rw[qP.1 hx]; exact h1
theorem ACE {N:Nat}{e:Ex}(h:NmB N e)(L:List Rng):∀k,NmB N (OG e L k)
 | 0=>ACF h _
 | k+1=>AT8 (ACE h L k) (ACF h _)
theorem AH4 (e:Ex)(h:NmB N e):NmB N (cpE e):=by
 induction e using Ex.induct with|h e ih=>?_
 rw[dU];refine NmB.mk (h e (by rw[pre_eq]; simp)) fun a ha=>?_
 obtain⟨b,hb,rfl⟩:=qE.1 ha;exact ih b hb fun x hx=>h x (by rw[pre_eq]; exact List.mem_cons_of_mem _ (mem_pres.2 ⟨b,hb,hx⟩))
theorem AH0 {l:List Rng}(h:wt e<=1048576)(hl:l.length<=4096):WN (FD e l)∧wt (FD e l)<=269000000:=by
 have hn:NmB 1048576 e:=(AQB h).2;have hnl:=kI l;have hp:parts (normal l)<=256:=by rw[parts_eq]; omega
 unfold FD;rcases Classical.em (normal l=[]) with q|q
 .have:RH e (normal l)=cE 0:=by unfold RH; rw[if_pos q]
  rw[this];exact⟨⟨by rw[ALO]; omega,aC _ _⟩,by rw[ALO]; omega⟩
 .rw[eX e _ q]
  have h1:=AFJ (cpE e) (normal l) (parts (normal l)-1);rw[AVQ] at h1;have h2:(parts (normal l)-1+1)*(wt e+34)<=256*(1048576+34):=Nat.mul_le_mul U U;exact⟨⟨U,ACE (AH4 e hn) _ _⟩,U⟩
theorem AT6 (h:WN e∧wt e<=269000000):WN (notE e)∧wt (notE e)<=269000001:=⟨⟨by rw[AFK]; omega,AQF h.1.2⟩,by rw[AFK]; omega⟩
theorem AKQ {P:Ex->Prop}{ins:Ex->List Rng->Ex}(h1:∀s∈J8 b,P (ins p.ex s.l))(h2:NM p.bins≠[]->P (notE (ins p.ex (NM p.bins)))):∀r∈fG ins p b,r.length<=2∧∀e∈r,P e:=by
 have base:∀r∈(J8 b).map (fun s=>[ins p.ex s.l]),r.length=1∧∀e∈r,P e:=fun r hr=>by
  obtain⟨s,hs,rfl⟩:=qE.1 hr;exact⟨rfl,fun e he=>by rw[qP.1 he]; exact h1 s hs⟩
 intro r hr;unfold fG badO at hr;by_cases q:NM p.bins=[]
 .rw[if_pos q] at hr
  obtain⟨a,b⟩:=base r hr;exact⟨U,b⟩
 .rw[if_neg q] at hr
  rcases List.mem_or_eq_of_mem_set (show r∈List.set _ _ _ from hr) with hr|rfl
  .obtain⟨a,b⟩:=base r hr
   exact⟨U,b⟩
  .cases hx:((J8 b).map fun s=>[ins p.ex s.l])[((J8 b).map fun s=>[ins p.ex s.l]).length-1]? with
   | none =>
     refine⟨A8,fun e he=>?_⟩;have:e=notE (ins p.ex (NM p.bins)):=BL he;rw[this]; exact h2 q
   | some r0 =>
     obtain⟨a,b⟩:=base r0 (zU hx);refine⟨by simp [a],fun e he=>?_⟩;rcases List.mem_append.1 he with he|he
     .exact b e he
     .rw[qP.1 he]; exact h2 q
theorem APA (ins:Ex->List Rng->Ex)(p:Pt)(b:Bin):(fG ins p b).length=(J8 b).length:=by unfold fG; rw[yR,jL]
def AAF (m:Mo)(x:Hl):List Int:=if x.cross=true then (match AEH m x.idx with|some c=>c.pts|none=>[]) else [x.idx]
structure Prt (m:Mo) (x:Hl) (L:List (Nat×Nat)):Prop where
 pts:AAF m x=L.map fun q=>(q.1:Int)
 bins:x.bins=L.map fun q=>(q.2:Int)
 ok:∀q∈L,∃h:q.1<m.pts.length,q.2<m.pts[q.1].bins.length
 n1:1<=L.length
 n4:L.length<=4
def cdQ (ins:Ex->List Rng->Ex)(m:Mo)(q:Nat×Nat):List (List Ex):=match m.pts[q.1]? with
 | some p=>(match p.bins[q.2]? with|some b=>fG ins p b|none=>[])
 | none=>[]
theorem AEP (ins:Ex->List Rng->Ex){m:Mo}{q:Nat×Nat}(h:q.1<m.pts.length)(h2:q.2<m.pts[q.1].bins.length):cdQ ins m q=fG ins m.pts[q.1] m.pts[q.1].bins[q.2]:=by
 unfold cdQ;rw[jI h];show(match m.pts[q.1].bins[q.2]? with|some b=>fG ins m.pts[q.1] b|none=>[])=_;rw[jI h2]
def A0J (ins:Ex->List Rng->Ex)(m:Mo)(L:List (Nat×Nat)):List (List Ex):=OY (L.map (cdQ ins m))
end Go.Proofs.YtiihpnicbekebaaGreatDoor.Ho
namespace Go.Proofs.YtiihpnicbekebaaGreatDoor.Bd.Cl
open Sm Bins Cov Xe Wd Bl Ho Go.RowKit
variable {n:Int} {H:Hp}
theorem yE (L:List Rng)(k n:Nat)(h:n=min 16 (L.length-16*k)):(L.drop (16*k)).take n=Ho.part L k:=by
 unfold Ho.part;rw[List.take_eq_take_iff,List.length_drop]; omega
theorem QS (n:Nat)(H:Hp)(d:Nat)(e:Ex):FI n H (d+3) (.agg (AY e))=.agg (AY e):=by rw[EY]; rfl
section
variable (G:Nat->AV)
theorem ACP (nm:ByteArray)(L:List Rng)(s:SM)(hl:L.length<=1048576)(h:Hp):PCall (En G) 180 [.str nm,.sl s 2 (L.map encR)] h (.agg (AY (nC nm L))):=by
 refine ACalls.pure (R:=fun v H=>v=.agg (AY (nC nm L))∧Sm.ext h H) 3 ?_ (fun v H ⟨a,b⟩=>⟨b,by rw[a]; exact QS _ _ 0 _⟩);refine acL Tryz.func180 [.cell 4 79] ?_;have g4:=AX h (qF 4 [EQ]);have hx:Sm.ext h (h++[qF 4 [EQ]]):=(ext.rfl' h).app _;have hb4:h.length<(h++[qF 4 [EQ]]).length:=A8;refine AO QW ?_;rw[show([AV.int .i64 0,.n 0,.str ⟨#[]⟩,.sl .nil 0 []]:List AV)=EQ from rfl]
 generalize h++[qF 4 [EQ]]=H0 at g4 hx hb4|-
 refine BG ?_ ?_<;>intro hz
 .have hz:L=[]:=List.eq_nil_of_length_eq_zero (BL hz)
  refine Z ?_;refine(WM G 0 _).use ?_;simp -implicitDefEqProofs only[vQ,N7,CJ,↓reduceIte,jC,enP,jQ,QH g4 rfl];rw[JA (b:=h.length) AC (O6 (CQ g4))];exact⟨by rw[hz]; rfl,hx.set (jF _) _⟩
 have hne:L≠[]:=by intro e; rw[e] at hz; simp at hz
 have hpos:0<L.length:=qQ.2 hne;have e1:min (16:Int) ((L.length:Nat):Int)=((min 16 L.length:Nat):Int):=U
 have hs1:∀H:Hp,IQ jA H 84 (.sl s 2 (L.map encR)) none (some (.n ((min 16 L.length:Nat):Int))) none=some (.sl (AKN s (min 16 L.length) L.length) 2 ((Ho.part L 0).map encR)):=fun H=>by
  have:=AFV ZA MJ (h:=H) (m:=s) (kk:=.i64) (xs:=L.map encR) (u:=min 16 L.length) MS;rw[<-List.map_take,jL] at this;have e:=yE L 0 (min 16 L.length) U;rw[Nat.mul_zero,zM] at e;rw[<-e];exact this
 have hs2:∀H:Hp,IQ jA H 84 (.sl s 2 (L.map encR)) (some (.n ((min 16 L.length:Nat):Int))) none none=some (.sl s 2 ((L.drop (16*1)).map encR)):=fun H=>by
  rw[sH ZA MJ MS,<-List.map_drop]
  have:L.drop (min 16 L.length)=L.drop (16*1):=by
   by_cases q:L.length<=16
   .rw[jR U,jR U]
   .rw[show min 16 L.length=16*1 by omega]
  rw[this]
 refine AQ e1 hs1 ?_;refine(eW G nm (Ho.part L 0) _ (by have:=QK L 0; omega) _).use ?_;have gc:=AX H0 (qF 4 [AY (JI (I9 nm) (Ho.part L 0))]);have st0:=nD H0 (JI (I9 nm) (Ho.part L 0)) EQ rfl;refine AO QW ?_;rw[show([AV.int .i64 0,.n 0,.str ⟨#[]⟩,.sl .nil 0 []]:List AV)=EQ from rfl];refine AQ st0 hs2 ?_;have g4:=AL (x:=qF 4 [AY (JI (I9 nm) (Ho.part L 0))]) g4;have hx:=hx.app [qF 4 [AY (JI (I9 nm) (Ho.part L 0))]]
 generalize H0++[qF 4 [AY (JI (I9 nm) (Ho.part L 0))]]=H1 at gc g4 hx|-
 generalize H0.length=cb at gc hb4|-
 have hsum:JI (I9 nm) (Ho.part L 0)=OG (I9 nm) L 0:=rfl;rw[hsum] at gc;refine D9 0 (fun F H=>F 4=.ptr h.length 0 0∧F 6=.ptr cb 0 0∧H[h.length]?=some (qF 4 [EQ])∧H[cb]?=some (qF 4 [AY (nC nm L)])∧Sm.ext h H) (fun _ _=>False) ?_ ?_ (fun _ _ q=>q.elim)
 .refine BB (fun n F H=>∃k,n=L.length-16*(k+1)∧16*k<L.length∧F 0=.str nm∧F 1=.sl s 2 ((L.drop (16*(k+1))).map encR)∧F 4=.ptr h.length 0 0∧F 6=.ptr cb 0 0∧H[h.length]?=some (qF 4 [EQ])∧H[cb]?=some (qF 4 [AY (OG (I9 nm) L k)])∧Sm.ext h H) (L.length-16)
   ⟨0,U,U,AC,AC,AC,AC,g4,gc,hx⟩ ?_
  clear g4 gc hx;rintro n F H ⟨k,rfl,hk,f0,f1,f4,f6,g4,gc,hx⟩;have ec:decide ((((L.drop (16*(k+1))).length:Nat):Int)>0)=decide (16*(k+1)<L.length):=by rw[decide_eq_decide,List.length_drop]; omega
  refine AQ f1 ec ?_;refine BG ?_ ?_<;>intro hc
  .have hk':16*(k+1)<L.length:=BL hc
   have e2:min (16:Int) (((L.drop (16*(k+1))).length:Nat):Int)=((min 16 (L.length-16*(k+1)):Nat):Int):=by rw[List.length_drop]; omega
   have hs3:∀H:Hp,IQ jA H 84 (.sl s 2 ((L.drop (16*(k+1))).map encR)) none (some (.n ((min 16 (L.length-16*(k+1)):Nat):Int))) none=some (.sl (AKN s (min 16 (L.length-16*(k+1))) (L.drop (16*(k+1))).length) 2 ((Ho.part L (k+1)).map encR)):=fun H=>by
    have:=AFV ZA MJ (h:=H) (m:=s) (kk:=.i64) (xs:=(L.drop (16*(k+1))).map encR) (u:=min 16 (L.length-16*(k+1))) MS;rw[<-List.map_take,jL,yE L (k+1) _ rfl] at this;exact this
   have hs4:∀H:Hp,IQ jA H 84 (.sl s 2 ((L.drop (16*(k+1))).map encR)) (some (.n ((min 16 (L.length-16*(k+1)):Nat):Int))) none none=some (.sl s 2 ((L.drop (16*(k+1+1))).map encR)):=fun H=>by
    rw[sH ZA MJ MS,<-List.map_drop,List.drop_drop]
    have:L.drop (16*(k+1)+min 16 (L.length-16*(k+1)))=L.drop (16*(k+1+1)):=by
     by_cases q:L.length<=16*(k+1+1)
     .rw[jR U,jR U]
     .rw[show 16*(k+1)+min 16 (L.length-16*(k+1))=16*(k+1+1) by omega]
    rw[this]
   have st3:DX jA H 79 (.ptr cb 0 0) (.agg [.n 20,.n 0,.str ⟨#[]⟩,.sl .full 4 [AY (OG (I9 nm) L k),AY (JI (I9 nm) (Ho.part L (k+1)))]])=some (H.set cb (qF 4 [AY (OG (I9 nm) L (k+1))])):=by
    have:=QH (e:=orE (OG (I9 nm) L k) (JI (I9 nm) (Ho.part L (k+1)))) gc (EF _);rw[AGD] at this;exact this
   have hcl:=AB gc;refine AQ f1 e2 ?_;refine DJ AZ ?_;refine MR @aI f0 f1 f6 (O6 gc) hs3 ?_;refine⟨_,eW G nm (Ho.part L (k+1)) _ (by have:=QK L (k+1); omega) _,?_⟩
   try refine MR @dZ @AVD st3 f6 f1 hs4 ?_
   exact⟨_,U,k+1,rfl,hk',A7,A7,A7,A7,DC g4 U,CQ gc,hx.set U _⟩
  .have hk':¬16*(k+1)<L.length:=BL hc
   have he:nC nm L=OG (I9 nm) L k:=by
    unfold nC;rw[if_neg hne,show parts L-1=k by unfold parts; omega]
   refine Z ?_;exact⟨A7,A7,g4,by rw[he]; exact gc,hx⟩
 .rintro F H ⟨f4,f6,g4,gc,hx⟩
  simp -implicitDefEqProofs only[vQ,Y5,CJ,↓reduceIte,jC,enP,jQ,f4,f6,O6 gc,QH g4 rfl];rw[JA (b:=h.length) (DW f4) (O6 (CQ g4))];exact⟨rfl,hx.set (jF _) _⟩
theorem APR (a b:Int):IR jA 145 [(0,.n a),(1,.n b)]=some (.agg (encR ⟨a,b⟩)):=AZ
theorem AXM (h:Hp)(r:Rng):C9 jA false h 84 1 [(0,.agg (encR r))]=some (.sl .full 2 [encR r],h):=AZ
theorem AZW:Frz encR:=fun _ _ _ _=>⟨rfl,rfl⟩
theorem oP (l:List Int):(Q7 l).length<=l.length:=by
 have:∀(l:List Int) (o:List Rng),(l.foldl YR o).length<=o.length+l.length:=fun l=>by
  induction l with
  | nil=>intro o; simp
  | cons a l ih =>
    intro o;have h1:=ih (YR o a)
    have h2:(YR o a).length<=o.length+1:=by
     unfold YR
     cases hg:o.getLast? with
     | none=>simp
     | some r =>
       have hp:0<o.length:=by cases o<;>simp at hg|-
       simp only;split<;>simp<;>omega
    rw[List.foldl_cons,List.length_cons]; omega
 have:=this l [];simpa [Q7] using this
theorem AP6 (n:Int):YR [] n=[⟨n,n⟩]:=rfl
theorem AT3 {R:List Rng}(hne:R≠[])(h:(R[R.length-1]'(by have:=qQ.2 hne; omega)).hi=n-1):YR R n=R.set (R.length-1) ⟨(R[R.length-1]'(by have:=qQ.2 hne; omega)).lo,n⟩:=by
 have hp:=qQ.2 hne;have e:R.getLast?=some R[R.length-1]:=by rw[List.getLast?_eq_getElem?,jI]
 unfold YR;rw[e];simp only;rw[if_pos h];apply List.ext_getElem?;intro j;rw[List.getElem?_set,List.dropLast_eq_take,List.getElem?_append,jU,Nat.min_eq_left U];by_cases q:R.length-1=j
 .subst q
  rw[if_neg U,if_pos rfl,if_pos U,Nat.sub_self]; rfl
 .rw[if_neg q]
  by_cases q2:j<R.length-1
  .rw[if_pos q2,List.getElem?_take,if_pos q2]
  .rw[if_neg q2,zW MS,zW U]
theorem AP7 {R:List Rng}(hne:R≠[])(h:¬(R[R.length-1]'(by have:=qQ.2 hne; omega)).hi=n-1):YR R n=R++[⟨n,n⟩]:=by
 have hp:=qQ.2 hne;have e:R.getLast?=some R[R.length-1]:=by rw[List.getLast?_eq_getElem?,jI]
 unfold YR;rw[e];simp only;rw[if_neg h]
theorem xP (l:List Int)(v:AV)(h0 h:Hp)(hv:outG 1 Bins.qencI h0 l v h)(hl:l.length<=1048576)(hr:∀z∈l,-1048576<=z∧z<=1048576):PCall (En G) 181 [v] h (.sl (Cov.nm (Q7 l)) 2 ((Q7 l).map encR)):=by
 refine KT AZW ?_;refine acT Tryz.func181 2 ?_;rcases hv with⟨rfl,rfl⟩|⟨hne,o,_,rfl,ho⟩
 .refine XQ ?_
  refine BB (fun n F H=>F 3=.sl .nil 0 []∧F 8=.n 0∧F 9=.n 0∧H=h) 0 ⟨AC,AC,AC,rfl⟩ ?_;rintro n F H ⟨f3,f8,f9,rfl⟩;refine EO f8 f9 (show decide ((0:Int)<0)=false by decide) f3 ?_;exact⟨ext.rfl' _,.inl ⟨rfl,rfl⟩⟩
 have ho:isI h o l:=ho;refine Z ?_
 refine BB (fun n F H=>∃i u,n+i=l.length∧F 3=u∧F 7=.own o 0 l.length∧F 8=.n (l.length:Nat)∧F 9=.n (i:Nat)∧Sm.ext h H∧outG 2 encR h (Q7 (l.take i)) u H) l.length
  ⟨0,.sl .nil 0 [],A8,AC,AC,AC,AC,ext.rfl' _,outG.nil _ _ _ _⟩ ?_
 rintro n F H ⟨i,u,hi,f3,f7,f8,f9,hx,hq⟩;refine AQ f8 f9 ?_;refine DU ?_ ?_<;>intro hi'
 .have hoH:isI H o l:=EJ hx ho
  have ld:BO jA H 3 (.ptr o i 0)=some (.n l[i]):=by rw[hoH.ld hi',List.getD_eq_getElem?_getD,jI hi']; rfl
  obtain⟨r0,r1⟩:=hr _ (jH hi');have hsn:Q7 (l.take (i+1))=YR (Q7 (l.take i)) l[i]:=by rw[jW hi',iY]
  have hRl:=oP (l.take i);rw[jU] at hRl
  have app:∀ {R:List Rng},Q7 (l.take i)=R->∃v' H',EP jA true H 84 84 u (.sl .full 2 [encR ⟨l[i],l[i]⟩])=some (v',H')∧outG 2 encR h (R++[⟨l[i],l[i]⟩]) v' H'∧Sm.ext h H':=fun {R} hR=>by
   subst hR;obtain⟨v',H',a1,a2,_,a3,_,_⟩:=hq.append (P:=jA) ZA MJ ALD APC U U hx ⟨l[i],l[i]⟩;exact⟨v',H',a1,a2,a3⟩
  generalize Q7 (l.take i)=R at hq hsn hRl app;have fin:∀ {v':AV} {H':Hp} (hq':outG 2 encR h (Q7 (l.take (i+1))) v' H') (hx':Sm.ext h H') (n:Nat),n+i=l.length->∃m,m<n∧∃i' u,m+i'=l.length∧v'=u∧(.own o 0 l.length:AV)=.own o 0 l.length∧Sm.ext h H'∧outG 2 encR h (Q7 (l.take i')) u H':=fun hq' hx' n hn=>⟨n-1,U,i+1,_,U,rfl,rfl,hx',hq'⟩
  rcases hq with⟨rfl,rfl⟩|⟨hR,ob,hob,rfl,hb⟩
  .obtain⟨v',H',a1,a2,a3⟩:=app rfl
   rw[AP6] at hsn;rw[List.nil_append,<-hsn] at a2;simp -implicitDefEqProofs only[vQ,LC,KD,ED,cL,CJ,FM,P9,GH,JX,NW,LM,↓reduceIte,jC,enP,KJ,kO,f3,f7,f9,hoH.ix hi',ld,List.length_nil,show IntKind.i64.wrap (((0:Nat):Int)-1) = -1 by decide,show decide ((-1:Int)≥0)=false by decide,APR,AXM,a1,CW i];exact⟨n-1,U,i+1,v',U,A7,A7,A7,A7,a3,a2⟩
  .have hp:=qQ.2 hR
   have hk:R.length-1<R.length:=U;have zk:IntKind.i64.wrap (((R.length:Nat):Int)-1)=((R.length-1:Nat):Int):=by rw[wrap_i64 U U]; omega
   have zn:IntKind.i64.wrap (l[i]-1)=l[i]-1:=wrap_i64 U U;have ixo:JM 2 H (.own ob 0 R.length) (.n ((R.length-1:Nat):Int))=some (.ptr ob (R.length-1) 0):=by rw[IG hb hk,jG]
   have lh:BO jA H 3 (.ptr ob (R.length-1) 1)=some (.n R[R.length-1].hi):=by rw[BH ag3 hb (Cov.row_map hk)]; rfl
   refine aE f3 f7 f9 @hoH.ix hi' ld zk @AAI ixo lh zn ?_;refine BG ?_ ?_<;>intro hd
   .have hd:R[R.length-1].hi=l[i]-1:=BL hd
    have st:DX jA H 3 (.ptr ob (R.length-1) 1) (.n l[i])=some (H.set ob (qF 2 ((R.set (R.length-1) ⟨R[R.length-1].lo,l[i]⟩).map encR))):=by
     rw[G9 (cs:=[.n l[i]]) rfl sz3 hb (Cov.row_map hk) (by simp [encR]),List.map_set]; rfl
    refine JL f3 ixo st f9 (CW i) ?_;refine⟨n-1,U,i+1,_,U,A7,A7,A7,A7,hx.set hob _,?_⟩;rw[hsn,AT3 hR hd];exact .inr ⟨fun e=>by have:=congrArg List.length e; simp at this; exact hR this,ob,hob,by rw[List.length_set],CQ hb⟩
   .have hd:¬R[R.length-1].hi=l[i]-1:=BL hd
    obtain⟨v',H',a1,a2,a3⟩:=app rfl;rw[AP7 hR hd] at hsn;rw[<-hsn] at a2;refine MR f3 APR AXM a1 f9 (CW i) ?_;exact⟨n-1,U,i+1,v',U,A7,A7,A7,A7,a3,a2⟩
 .rw[jJ U] at hq
  refine AO f3 ?_;exact⟨hx,hq⟩
theorem AZ5 (n:Int)(w:Wg)(c:Nat)(h:Hp)(hc:h[c]?=some (qF 1 [[.n n]])):PCall (En G) 179 ([.agg (IZ w)]++[.ptr c 0 0]) h (.bool (YN n w)):=by
 refine ACalls.pure0 rfl ?_;refine acT Tryz.func179 3 ?_;have hc':(h++[qF 4 [IZ w]])[c]?=_:=AL hc;have l0:BO jA (h++[qF 4 [IZ w]]) 3 (.ptr h.length 0 0)=some (.n w.lo):=by rw[BH ag3 (AX _ _) (row:=IZ w) rfl]; rfl
 have l1:BO jA (h++[qF 4 [IZ w]]) 3 (.ptr h.length 0 1)=some (.n w.hi):=by rw[BH ag3 (AX _ _) (row:=IZ w) rfl]; rfl
 have l2:BO jA (h++[qF 4 [IZ w]]) 3 (.ptr c 0 0)=some (.n n):=FZ ag3 hc';refine EO @A0U l0 l1 l2 ?_;cases b1:decide (w.lo<=n)
 .refine DI b1 l1 l2 ?_
  exact⟨by unfold YN; rw[b1]; rfl,_,rfl⟩
 .refine DI b1 l1 l2 ?_
  exact⟨by unfold YN; rw[b1]; rfl,_,rfl⟩
end
theorem al3 (h:Hp):F9 jA h 3=some (.ptr h.length 0 0,h++[qF 1 [[.n 0]]]):=FC (row:=[.n 0]) AZ
theorem A2R (h:Hp)(n:Int):DX jA (h++[qF 1 [[.n 0]]]) 3 (.ptr h.length 0 0) (.n n)=some (h++[qF 1 [[.n n]]]):=by
 rw[IY (cs:=[.n n]) (row:=[.n 0]) rfl sz3 (AX _ _) (jF 1),KH]; rfl
theorem bsI (h:Hp)(n:Int):C9 jA false h 32 1 [(0,.n n)]=some (.sl .full 1 [Bins.qencI n],h):=AZ
theorem AGA (ws:List Wg):∀k,∀z∈S9 ws k,0<=z∧z<(k:Int)
 | 0,z,h=>by cases h
 | k+1,z,h=>by
   rcases List.mem_append.1 h with h|h
   .have:=AGA ws k z h; omega
   .split at h
    .have e:z=(k:Int):=BL h
     rw[e]; omega
    .cases h
theorem AMR {ws:List Wg}:(NR (YN n) ws<0->Q5 n ws=false)∧(0<=NR (YN n) ws->∃k,∃hk:k<ws.length,NR (YN n) ws=(k:Nat)∧Q5 n ws=decide (ws[k].w>0)):=by
 constructor
 .intro h
  exact AF8 (dF _ _ h)
 .intro h
  obtain⟨k,hk,e,h1,h2⟩:=WY _ _ h;exact⟨k,hk,e,AF9 hk h2 h1⟩
theorem AWM {b:Nat}{d:Ds}(hb:H[b]?=some (qF 2 [IJ d])):BO jA H 140 (.ptr b 0 0)=some (.agg (IJ d)):=by
 rw[EH AHW eO hb rfl (by rw[QU]; exact jF 2),zM,jJ (by rw[QU]; exact jF 2)]
section
variable (G:Nat->AV)
theorem sF (p:Pr)(hs:PrS p)(P:PV p)(d:Ds)(hr:O9 p.vars d.var=true)(hwl:d.ws.length<=1048576)(h:Hp):PCall (En G) 99 [.agg (CX p),.agg (IJ d)] h (.agg (AY (vN p d))):=by
 obtain⟨k,hk,hdk,hm⟩:=XY hr;obtain⟨_,w1,w8,_⟩:=U1 (P.vr _ (jH hk));obtain⟨w,hw⟩:=Int.eq_ofNat_of_zero_le (U:0<=p.vars[k].width)
 have hsup:vN p d=nC p.vars[k].name (runs d.ws (2^w)):=by
  unfold vN;rw[hdk,qN,jI hk];simp only;rw[hw,qN]
 have hW:(2:Nat)^w<=256:=by
  have:w<=8:=U
  calc (2:Nat)^w<=2^8:=Nat.pow_le_pow_right DK this
   _=256:=rfl
 have e2:(2:Int)^w=((2^w:Nat):Int):=by rw[Int.natCast_pow]; rfl
 rw[hsup];refine ACalls.pure (R:=fun v H=>v=.agg (AY (nC p.vars[k].name (runs d.ws (2^w))))∧Sm.ext h H) 3 ?_ (fun v H ⟨a,b⟩=>⟨b,by rw[a]; exact QS _ _ 0 _⟩);refine acL Tryz.func99 [.cell 4 79] ?_;have gp:=AL (x:=qF 4 [EQ]) (AL (x:=qF 2 [IJ d]) (AX h (qF 5 [CX p])));have gd:=AL (x:=qF 4 [EQ]) (AX (h++[qF 5 [CX p]]) (qF 2 [IJ d]));have g4:=AX (h++[qF 5 [CX p]]++[qF 2 [IJ d]]) (qF 4 [EQ]);have hx:Sm.ext h (h++[qF 5 [CX p]]++[qF 2 [IJ d]]++[qF 4 [EQ]]):=(((ext.rfl' h).app _).app _).app _;have e4:(h++[qF 5 [CX p]]++[qF 2 [IJ d]]).length=h.length+2:=A8;have e3:(h++[qF 5 [CX p]]).length=h.length+1:=A8;refine DI @SS @bxD QW ?_;rw[show([AV.int .i64 0,.n 0,.str ⟨#[]⟩,.sl .nil 0 []]:List AV)=EQ from rfl]
 rw[e4] at g4|-
 rw[e3] at gd|-
 generalize h++[qF 5 [CX p]]++[qF 2 [IJ d]]++[qF 4 [EQ]]=H0 at gp gd g4 hx|-
 have ldv:BO jA H0 3 (.ptr (h.length+1) 0 0)=some (.n (k:Nat)):=by rw[BH ag3 gd (row:=IJ d) rfl]; show some (AV.int .i64 d.var)=_; rw[hdk]
 have gp:=AL (x:=qF 4 [encV p.vars[k]]) gp;have gd:=AL (x:=qF 4 [encV p.vars[k]]) gd;have gv:=AX H0 (qF 4 [encV p.vars[k]]);have hl4:=AB g4;simp -implicitDefEqProofs only[vQ,CJ,Z9,↓reduceIte,jC,Nat.add_zero,enP,dE,VJ,uA,jQ,nM (show H0[h.length]?=some (qF 5 [CX p]) by rw[<-List.getElem?_append_left (l₂:=[qF 4 [encV p.vars[k]]]) U]; exact gp),ldv,CG hk,Bd.ldV hk,Bd.al61,Bd.st61];have g4:=AL (x:=qF 4 [encV p.vars[k]]) g4;have hx:=hx.app [qF 4 [encV p.vars[k]]];have hxv:Sm.ext H0 (H0++[qF 4 [encV p.vars[k]]]):=(ext.rfl' _).app _
 generalize H0++[qF 4 [encV p.vars[k]]]=H1 at gp gd g4 gv hx hxv|-
 generalize H0.length=vb at gv hl4|-
 clear ldv e3 e4;have lw:BO jA H1 3 (.ptr vb 0 1)=some (.n (w:Nat)):=by rw[BH ag3 gv rfl]; show some (AV.int .i64 p.vars[k].width)=_; rw[hw]
 have hvb:=AB gv;refine AQ lw (AYS w (by omega)) ?_;refine D9 0 (fun F H=>∃u,F 4=.ptr (h.length+2) 0 0∧F 5=.ptr vb 0 0∧F 6=u∧Sm.ext H1 H∧outG 1 Bins.qencI H1 (S9 d.ws (2^w)) u H) (fun _ _=>False) ?_ ?_ (fun _ _ q=>q.elim)
 .refine BB (fun n F H=>∃i u,n+i=2^w∧F 3=.ptr (h.length+1) 0 0∧F 4=.ptr (h.length+2) 0 0∧F 5=.ptr vb 0 0∧F 6=u∧F 17=.n ((2^w:Nat):Int)∧F 18=.n (i:Nat)∧Sm.ext H1 H∧outG 1 Bins.qencI H1 (S9 d.ws i) u H) (2^w)
   ⟨0,.sl .nil 0 [],A8,AC,AC,AC,AC,by refine Z ?_; rw[e2],AC,ext.rfl' _,outG.nil _ _ _ _⟩ ?_
  rintro n F H ⟨i,u,hi,f3,f4,f5,f6,f17,f18,hxH,ho⟩;refine AQ f17 f18 ?_;refine DU ?_ ?_<;>intro hi'
  .have gi:=AX H (qF 1 [[.n (i:Nat)]])
   have hxH:=hxH.app [qF 1 [[.n (i:Nat)]]];have ho:=ho.app [qF 1 [[.n (i:Nat)]]];refine DI f18 al3 @A2R ?_
   generalize H++[qF 1 [[.n (i:Nat)]]]=H2 at gi hxH ho|-
   generalize H.length=ib at gi|-
   have gd2:=EJ hxH gd;have lws:BO jA H2 120 (.ptr (h.length+1) 0 1)=some (.sl d.wm 4 (d.ws.map IZ)):=by rw[BH AHX gd2 rfl]; rfl
   have li:BO jA H2 3 (.ptr ib 0 0)=some (.n (i:Nat)):=by rw[BH ag3 gi rfl]; rfl
   refine AQ f3 lws ?_;refine(AAA G d.ws d.wm 179 [.ptr ib 0 0] (YN (i:Nat)) H2 U fun x _=>AZ5 G (i:Nat) x ib H2 gi).use ?_;have fin:∀(u':AV) (H':Hp),Sm.ext H1 H'->outG 1 Bins.qencI H1 (S9 d.ws (i+1)) u' H'->Sm.ext H1 H'∧outG 1 Bins.qencI H1 (S9 d.ws (i+1)) u' H':=fun _ _ a b=>⟨a,b⟩
   have hl:=kE d.ws i;obtain⟨c1,c2⟩:=AMR (n:=(i:Nat)) (ws:=d.ws);cases b1:decide (NR (YN ((i:Nat):Int)) d.ws≥0)
   .have hp:=c1 (by have:=of_decide_eq_false b1; omega)
    have hps:S9 d.ws (i+1)=S9 d.ws i:=by simp only[S9]; rw[if_neg (by rw[hp]; decide),jO]
    rw[<-hps] at ho;refine DI b1 f18 (CW i) ?_;exact⟨n-1,U,i+1,u,U,A7,A7,A7,A7,A7,A7,hxH,ho⟩
   .obtain⟨j,hj,ej,hp⟩:=c2 (by have:=of_decide_eq_true b1; omega)
    rw[ej] at b1|-
    have lw2:BO jA H2 3 (.fptr 4 (d.ws.map IZ) j 2)=some (.n d.ws[j].w):=by rw[BP ag3 hj]; rfl
    refine NZ ANV @bM b1 f3 lws hj lw2 ?_;refine BG ?_ ?_<;>intro hq
    .have hps:S9 d.ws (i+1)=S9 d.ws i++[((i:Nat):Int)]:=by simp only[S9]; rw[if_pos (by rw[hp]; exact hq)]
     obtain⟨v',H',a1,a2,_,a3,_,_⟩:=ho.append (P:=jA) fP sz3 AH6 uN U U hxH ((i:Nat):Int);rw[<-hps] at a2;refine MR f6 li @bsI a1 f18 (CW i) ?_;exact⟨n-1,U,i+1,v',U,A7,A7,A7,A7,A7,A7,a3,a2⟩
    .have hps:S9 d.ws (i+1)=S9 d.ws i:=by simp only[S9]; rw[if_neg (by rw[hp,hq]; decide),jO]
     rw[<-hps] at ho;refine AQ f18 (CW i) ?_;exact⟨n-1,U,i+1,u,U,A7,A7,A7,A7,A7,A7,hxH,ho⟩
  .have ei:i=2^w:=U
   rw[ei] at ho;refine Z ?_;exact⟨u,A7,A7,A7,hxH,ho⟩
 .rintro F H ⟨u,f4,f5,f6,hxH,ho⟩
  have gv2:=EJ hxH gv;have g42:=EJ hxH g4;have ln:BO jA H 9 (.ptr vb 0 0)=some (.str p.vars[k].name):=by rw[BH ag9 gv2 rfl]; rfl
  have hpl:=kE d.ws (2^w);have hpi:=AGA d.ws (2^w);refine Z ?_;refine DJ AZ ?_;refine DI f5 f6 ln ?_;refine⟨_,xP G (S9 d.ws (2^w)) u H1 _ ho U (fun z hz=>by have:=hpi z hz; omega),_,ACP G p.vars[k].name (runs d.ws (2^w)) _ (by have:=oP (S9 d.ws (2^w)); show(Q7 (S9 d.ws (2^w))).length<=_; omega) _,?_⟩;simp -implicitDefEqProofs only[vQ,PG,f4,QH g42 rfl];rw[JA (b:=h.length+2) (DW f4) (O6 (CQ g42))];exact⟨rfl,(hx.trans hxH).set U _⟩
def fW (h:Hp)(ys:List Ex)(v:AV)(H:Hp):Prop:=∃o tail,h.length<=o∧v=.own o 0 ys.length∧H[o]?=some (qF 4 (ys.map AY++tail))
theorem yJ {h:Hp}{xs:List Ex}{v:AV}(ho:fW h xs v H)(he:Sm.ext h H)(hl:xs.length+1<=8388608)(y:Ex):
  ∃v' H',EP jA true H 23 23 v (.sl .full 4 [AY y])=some (v',H')∧fW h (xs++[y]) v' H'∧Sm.ext h H'∧(∀b x,H[b]?=some x->¬isB v b->H'[b]?=some x)∧∀b,isB v' b->b=H.length:=by
 obtain⟨o,tail,h2,rfl,h3⟩:=ho;have hc:JF H (.own o 0 xs.length)=some (4,xs.map AY):=by rw[J6 h3 A8,zM,List.take_append_of_le_length A8,jJ A8]
 refine⟨_,_,TK U5 I8 cN bZ hc (IE H .full 4 [AY y]) A8 (I5 MS U),⟨H.length,[],he.le,A8,A8⟩,(he.set h2 _).app _,fun b x hb hn=>?_,fun b hb=>hb.symm⟩;exact AL (by rw[List.getElem?_set_ne (fun e=>hn e)]; exact hb)
theorem yI {h:Hp}{ys:List Ex}{v:AV}(ho:fW h ys v H)(d:Nat):FI h.length H (d+2) v=.sl .any 4 (ys.map AY):=by
 obtain⟨o,tail,h2,rfl,h3⟩:=ho;have e:((ys.map AY++tail).drop 0).take ys.length=ys.map AY:=by rw[zM,List.take_append_of_le_length A8,jJ A8]
 rw[Cov.frzF_own _ _ (d+1) o 0 ys.length 4 _ U h3,e,frz_rows Ho.frzEx _ _ d _,if_pos];refine⟨A8,?_⟩;rw[List.all_eq_true];intro row hr;obtain⟨x,_,rfl⟩:=List.mem_map.1 hr;exact UF x
theorem AY9 (h:Hp)(n:Nat)(hn:n<=1048576):GL jA true h 23 (.n 0) (.n (n:Int))=some (.own h.length 0 0,h++[qF 4 (zD n EQ)]):=by
 have hz:MB jA 79=some EQ:=AZ;have hr:room n 56:=I5 U U;unfold GL;simp only[U5,I8,bZ,hz];rw[if_pos ⟨U,U,by rw[qN]; exact hr,rfl⟩];simp
theorem AHL {p:Pr}(hv:JY p=0):∀d∈p.dists,O9 p.vars d.var=true∧d.ws.length<=16:=by
 have h3:MN p.vars p.dists=0:=by
  unfold JY at hv;by_cases h1:LD p.vars≠0
  .rw[if_pos h1] at hv; exact absurd hv h1
  rw[if_neg h1] at hv;by_cases h2:JW p.vars (p.hard++p.soft)≠0
  .rw[if_pos h2] at hv; exact absurd hv h2
  rw[if_neg h2] at hv;by_cases h3:MN p.vars p.dists≠0
  .rw[if_pos h3] at hv; exact absurd hv h3
  simpa using h3
 intro d hd;obtain⟨i,hi,rfl⟩:=List.getElem_of_mem hd;unfold MN at h3;have h4:=Bd.fstE_zero h3 i (BL hi);rw[lQ hi] at h4;unfold dsE at h4
 cases hr:O9 p.vars p.dists[i].var with
 | false=>rw[if_neg (by rw[hr]; decide)] at h4; exact absurd h4 DK
 | true =>
   rw[if_pos hr] at h4;refine⟨rfl,?_⟩;split at h4
   .exact absurd h4 DK
   .split at h4
    .exact absurd h4 DK
    .omega
theorem uZ (hG:GOk G)(p:Pr)(hs:PrS p)(hv:JY p=0)(h:Hp):PCall (En G) 46 [.agg (CX p)] h (.sl .any 4 ((WA p).map AY)):=by
 have P:=PV.of hv;refine ACalls.pure (R:=fun v H=>fW h (WA p) v H∧Sm.ext h H) 2 ?_ (fun v H ⟨a,b⟩=>⟨b,yI a 0⟩);refine acT Tryz.func46 2 ?_;have gp:=AX h (qF 5 [CX p]);have hx:Sm.ext h (h++[qF 5 [CX p]]):=(ext.rfl' h).app _;have hdl:=hs.dists;refine AO @SS ?_
 generalize h++[qF 5 [CX p]]=H0 at gp hx|-
 have ldP:∀ {H:Hp},H[h.length]?=some (qF 5 [CX p])->BO jA H 27 (.ptr h.length 0 0)=some (.agg (CX p)):=fun q=>by rw[EH mP fR q (row:=CX p) rfl (by rw[NV]; exact jF 5)]; rfl
 have ldD:∀ {H:Hp},H[h.length]?=some (qF 5 [CX p])->BO jA H 24 (.ptr h.length 0 3)=some (.sl p.dm 2 (p.dists.map IJ)):=fun q=>by rw[BH AP5 q (row:=CX p) rfl]; rfl
 refine AO (ldP gp) ?_;refine(Bd.valid_prog G hG p hs H0).use ?_;refine DI (show(JY p != 0)=false by rw[hv]; rfl) (ldD gp) (AY9 H0 p.dists.length hdl) ?_;have hpl0:=AB gp;have ho:fW h ((WA p).take 0) (.own H0.length 0 0) (H0++[qF 4 (zD p.dists.length EQ)]):=⟨H0.length,zD p.dists.length EQ,hx.le,rfl,A8⟩;have gp:=AL (x:=qF 4 (zD p.dists.length EQ)) gp;have hx:=hx.app [qF 4 (zD p.dists.length EQ)];have hb0:∀b,isB (.own H0.length 0 0) b->b≠h.length:=fun b hb=>by cases hb; omega
 generalize H0++[qF 4 (zD p.dists.length EQ)]=H1 at gp hx ho|-
 refine AO (ldD gp) ?_;generalize AV.own H0.length 0 0=v0 at ho hb0;have hsl:(WA p).length=p.dists.length:=by unfold WA; rw[jL]
 refine BB (fun n F H=>∃i v,n+i=p.dists.length∧F 1=.ptr h.length 0 0∧F 3=v∧F 14=.sl p.dm 2 (p.dists.map IJ)∧F 15=.n (p.dists.length:Nat)∧F 16=.n (i:Nat)∧H[h.length]?=some (qF 5 [CX p])∧Sm.ext h H∧fW h ((WA p).take i) v H∧∀b,isB v b->b≠h.length) p.dists.length
  ⟨0,v0,A8,AC,AC,AC,AC,AC,gp,hx,ho,hb0⟩ ?_
 clear gp hx ho hb0;rintro n F H ⟨i,v,hi,f1,f3,f14,f15,f16,gp,hx,ho,hb0⟩;refine AQ f15 f16 ?_;refine DU ?_ ?_<;>intro hi'
 .obtain⟨d1,d2⟩:=AHL hv _ (jH hi')
  have lt:=AB gp;have gp:=AL (x:=qF 2 [IJ p.dists[i]]) gp;have hx:=hx.app [qF 2 [IJ p.dists[i]]];have gd:=AX H (qF 2 [IJ p.dists[i]])
  have ho:fW h ((WA p).take i) v (H++[qF 2 [IJ p.dists[i]]]):=by
   obtain⟨o,tail,q1,q2,q3⟩:=ho;exact⟨o,tail,q1,q2,AL q3⟩
  have ald:F9 jA H 140=some (.ptr H.length 0 0,H++[qF 2 [[.n 0,.sl .nil 0 []]]]):=FC (row:=[.n 0,.sl .nil 0 []]) AZ
  have std:DX jA (H++[qF 2 [[.n 0,.sl .nil 0 []]]]) 140 (.ptr H.length 0 0) (.agg (IJ p.dists[i]))=some (H++[qF 2 [IJ p.dists[i]]]):=by
   rw[IY (cs:=IJ p.dists[i]) (row:=[.n 0,.sl .nil 0 []]) rfl (by rw[QU]; exact eO) (AX _ _) (by rw[QU]; exact jF 2),KH]; rfl
  simp -implicitDefEqProofs only[vQ,CJ,↓reduceIte,jC,enP,AJW,jQ,f14,f16,CG hi',CY AHW eO QU hi',ald,std]
  generalize H++[qF 2 [IJ p.dists[i]]]=H2 at gp hx gd ho|-
  refine EO f1 f3 (ldP gp) (AWM gd) ?_;refine(sF G p hs P p.dists[i] d1 U H2).use ?_;obtain⟨v',H',a1,a2,a3,a4,a5⟩:=yJ ho hx (by rw[jU]; omega) (vN p p.dists[i]);have hit:i<(WA p).length:=U;have hget:(WA p)[i]=vN p p.dists[i]:=by simp [WA]
  rw[<-hget,<-jW hit] at a2;refine EO @rB a1 f16 (CW i) ?_;refine⟨n-1,U,i+1,v',U,A7,A7,A7,A7,A7,a4 _ _ gp (fun q=>hb0 _ q rfl),a3,a2,fun b hb=>by have:=a5 b hb; have:=AB gp; have:=AB gd; omega⟩
 .rw[jJ U] at ho
  refine AO f3 ?_;exact⟨ho,hx⟩
end
end Go.Proofs.YtiihpnicbekebaaGreatDoor.Bd.Cl
namespace Go.Proofs.YtiihpnicbekebaaGreatDoor.Bd.Cl
open Sm Bins Cov Xe Wd Bl Go.RowKit
variable {H h:Hp} {u v:AV} {a b c:List Int} {i:Nat} {e:Ex} {p:Pr}
theorem A22 (o off len:Nat):H9 jA 32 .eql (.own o off len) (.sl .nil 0 [])=some (.bool false):=AZ
def cpO (h H:Hp)(xs:List Int)(v:AV):Prop:=(xs=[]∧v=.sl .full 1 [])∨(xs≠[]∧∃o,h.length<=o∧v=.own o 0 xs.length∧isI H o xs)
theorem cpO.app {xs:List Int}(q:cpO h H xs v)(x:ABlk):cpO h (H++[x]) xs v:=q.imp id fun⟨a,o,b,c,d⟩=>⟨a,o,b,c,AL d⟩
theorem cpO.keep {h H H':Hp}{B:List Nat}{xs:List Int}{v:AV}(q:cpO h H xs v)(k:KB B H H')(hB:∀b∈B,b<h.length):cpO h H' xs v :=
 q.imp id fun⟨a,o,b,c,d⟩=>⟨a,o,b,c,k.keep _ _ d fun hm=>by have:=hB _ hm; omega⟩
section
variable (G:Nat->AV)
theorem AEL {o:Nat}{xs:List Int}(ho:isI h o xs)(hm:xs.length<=1048576):ACalls (En G) 189 [.own o 0 xs.length] h fun v H=>ext h H∧cpO h H xs v:=by
 by_cases hz:xs.length=0
 .have e:xs=[]:=qU hz
  subst e;refine acT Tryz.func189 2 ?_
  have ap:EP jA true h 32 32 (.sl .full 1 []) (.own o 0 0)=some (.sl .full 1 [],h):=by
   unfold EP;have hs:RX jA h 1 32 (.own o 0 0)=some []:=by unfold RX; simp only[fP,J6 ho (A8:0+0<=(([]:List Int).map Bins.qencI).length)]; rfl
   simp only[fP,sz3,IE,hs];rfl
  refine JZ A22 @APH ap ?_;exact⟨ext.rfl' _,.inl ⟨rfl,rfl⟩⟩
 .refine(AKT G ho (U:0+xs.length=xs.length) U hm).mono ?_
  rintro v H ⟨rfl,rfl⟩;exact⟨(ext.rfl' h).app _,.inr ⟨fun e=>hz (by rw[e]; rfl),h.length,jF _,rfl,by rw[List.drop_zero]; exact AX _ _⟩⟩
theorem AQJ (hG:GOk G)(l:List Sg)(v:AV)(h0 h:Hp)(hv:outG 2 FY h0 l v h)(e:Ex)(hl:l.length<=1048576)(hw:wt e<=1048576):PCall (En G) 143 [.agg (AY e),v] h (evV (evE l e)):=by
 rcases hv with⟨rfl,rfl⟩|⟨hne,o,ho,rfl,hb⟩
 .exact ACalls.args (rS G hG [] .nil e h A8 hw) (CvRL.cons (CvR.refl _) (CvRL.cons (CvR.sl (Cv.nil 0 2)) CvRL.nil))
 .refine PCall.thaw (args':=[.agg (AY e),.sl .any 2 (l.map FY)]) (rS G hG l .any e _ U hw) rfl (fun i v' hi=>?_) rfl
  match i,hi with
  | 0,hi=>exact⟨_,rfl,by cases hi; exact .same _⟩
  | 1,hi =>
    refine⟨_,rfl,?_⟩;cases hi;refine .own o 2 l.length (l.map FY) hb (by rw[List.length_map]) fun row hr u hu=>?_
    obtain⟨s,_,rfl⟩:=List.mem_map.1 hr;simp only[FY,List.mem_cons,List.not_mem_nil,or_false] at hu;rcases hu with rfl|rfl<;>exact⟨rfl,rfl⟩
  | i+2,hi=>cases hi
theorem AOT {vars:List Vr}(z:Int)(h1:i<vars.length)(h2:i<a.length):(OX vars a).set i (vars[i].name,z)=OX vars (a.set i z):=by
 apply List.ext_getElem?;intro j;have hel:∀ {b:List Int},j<(OX vars b).length↔j<vars.length∧j<b.length:=fun {b}=>by unfold OX; simp; omega
 by_cases hj:j<vars.length∧j<a.length
 .have hj1:j<(OX vars (a.set i z)).length:=hel.2 ⟨hj.1,by rw[qX]; exact hj.2⟩
  rw[List.getElem?_set,jI hj1,hJ hj.1 (by rw[qX]; exact hj.2) hj1,List.getElem_set];by_cases e:i=j
  .subst e
   rw[if_pos rfl,if_pos (hel.2 hj),if_pos rfl]
  .rw[if_neg e,if_neg e,jI (hel.2 hj),hJ hj.1 hj.2 (hel.2 hj)]
 .rw[zW (by rw[qX]; have:=(hel (b:=a)).1; omega),zW (by have:=(hel (b:=a.set i z)).1; rw[qX] at this; omega)]
def fX (c b:List Int)(i:Nat):List Int:=c.take i++b.drop i
theorem AM6 (h:c.length=b.length)(i:Nat):(fX c b i).length=b.length:=by unfold fX; simp; omega
theorem AM5 (h:c.length=b.length)(hi:i<c.length):(fX c b i).set i (c.getD i 0)=fX c b (i+1):=by
 unfold fX;rw[List.set_append_right _ _ (by rw[jU]; omega),jU,Nat.min_eq_left U,Nat.sub_self,List.drop_eq_getElem_cons (U:i<b.length),List.set_cons_zero,jW hi,List.append_assoc];rw[List.getD_eq_getElem?_getD,jI hi]; rfl
theorem pT:∀(vars:List Vr) (a:List Int),a.length=vars.length->∀n:ByteArray,(OM (OX vars a) n).2=decide (0<=plc vars n)
 | [],[],_,n=>rfl
 | [],_::_,hl,_=>by simp at hl
 | _::_,[],hl,_=>by simp at hl
 | v::vs,z::a,hl,n=>by
   have e:OM (OX (v::vs) (z::a)) n=if(v.name.toList==n.toList)=true then (wW z,true) else OM (OX vs a) n:=rfl
   have ep:plc (v::vs) n=if(v.name.toList==n.toList)=true then 0 else if plc vs n<0 then -1 else plc vs n+1:=rfl
   rw[e,ep];by_cases q:(v.name.toList==n.toList)=true
   .rw[if_pos q,if_pos q]; rfl
   .rw[if_neg q,if_neg q,pT vs a (BL hl) n,decide_eq_decide]
    split<;>omega
theorem ALJ {l:List Vr}(h:xpE l e=0):exE e=0∧mL e=false∧gB l e=false:=by
 unfold xpE at h;by_cases he:exE e≠0
 .rw[if_pos he] at h; exact absurd h he
 rw[if_neg he] at h;unfold plE at h;refine⟨BL he,?_,?_⟩
 .cases q:mL e
  .rfl
  .rw[if_pos q] at h; exact absurd h DK
 .cases q:gB l e
  .rfl
  .rw[if_pos q] at h; split at h<;>exact absurd h DK
theorem AZO (h:xpE p.vars e=0)(hl:a.length=p.vars.length):(pre e).all (knE (OX p.vars a))=true:=by
 obtain⟨_,h2,h3⟩:=ALJ h;rw[zJ];intro x hx
 have a2:OI x=false:=by
  cases q:OI x
  .rfl
  .unfold mL at h2; rw[qM] at h2; exact absurd q (h2 x hx)
 have a3:O4 p.vars x=false:=by
  cases q:O4 p.vars x
  .rfl
  .unfold gB at h3; rw[qM] at h3; exact absurd q (h3 x hx)
 unfold knE;by_cases e2:x.op=2
 .rw[if_pos e2,pT p.vars a hl,decide_eq_true_eq]
  unfold O4 at a3;simp [e2] at a3;exact a3
 .rw[if_neg e2]
  unfold OI at a2;rw[if_neg];intro q;rcases q with q|q<;>simp [q] at a2
theorem A0B (h:xpE p.vars e=0)(hl:a.length=p.vars.length):evE (OX p.vars a) e=(YK (OX p.vars a) e,0):=by
 unfold evE; rw[if_neg (by simpa using (ALJ h).1),if_pos (AZO h hl)]
def Dh (h:Hp)(p:Pr)(c b:List Int)(u v:AV)(H:Hp):Prop :=
 (p.vars.length=0∧u=.sl .full 1 []∧v=.sl .nil 0 [])∨(p.vars.length≠0∧∃eb o,h.length<=eb∧eb<o∧v=.own eb 0 p.vars.length∧u=.own o 0 p.vars.length∧H[eb]?=some (qF 2 ((OX p.vars b).map FY))∧isI H o c)
theorem Dh.kb {H':Hp}(d:Dh h p c b u v H){B:List Nat}(k:KB B H H')(hB:∀x∈B,x<h.length):Dh h p c b u v H' :=
 d.imp id fun⟨a,eb,o,q1,q2,q3,q4,q5,q6⟩=>⟨a,eb,o,q1,q2,q3,q4,k.keep _ _ q5 fun hm=>by have:=hB _ hm; omega,k.keep _ _ q6 fun hm=>by have:=hB _ hm; omega⟩
theorem Dh.env (d:Dh h p c b u v H)(hb:b.length=p.vars.length):outG 2 FY h (OX p.vars b) v H:=by
 have hel:=XF hb;rcases d with⟨z,_,rfl⟩|⟨z,eb,o,q1,q2,rfl,q4,q5,q6⟩
 .exact .inl ⟨qU U,rfl⟩
 .exact .inr ⟨fun e=>z (by rw[<-hel,e]; rfl),eb,q1,by rw[hel],q5⟩
theorem Dh.cpy (d:Dh h p c b u v H)(hc:c.length=p.vars.length):cpO h H c u:=by
 rcases d with⟨z,rfl,_⟩|⟨z,eb,o,q1,q2,_,rfl,q5,q6⟩
 .exact .inl ⟨qU U,rfl⟩
 .exact .inr ⟨fun e=>z (by rw[<-hc,e]; rfl),o,U,by rw[hc],q6⟩
theorem A2N {b:Nat}{l:List Sg}(hb:H[b]?=some (qF 2 (l.map FY)))(hi:i<l.length)(z:Int):DX jA H 3 (.ptr b i 1) (.n z)=some (H.set b (qF 2 ((l.set i (l[i].1,z)).map FY))):=by
 rw[G9 (cs:=[.n z]) rfl sz3 hb (Cov.row_map hi) (by simp [FY]),List.map_set]; rfl
theorem AN4 (hG:GOk G)(p:Pr)(hs:PrS p)(P:PV p)(lm:SM)(l:List Ex)(hl:l.length<=1048576)(hw:∀e∈l,wt e<=1048576)(hk:∀e∈l,xpE p.vars e=0)(st:Int)(a:List Int)(ok:AOk p a)(fb ab:Nat)(hne:fb≠ab)(h:Hp)(hst:(lft p a:Int)<=st)(hst2:st<=262144)
  (hf:isF h fb p lm l ab p.vars.length false st) (hb:isI h ab a):ACalls (En G) 183 [.ptr fb 0 0] h fun v H=>KB [fb,ab] h H∧match nE p l (lft p a) a with
  | some b=>∃u,v=.tup [u,.bool true]∧cpO h H b u
  | none=>v=.tup [.sl .nil 0 [],.bool false]∧∃st',isF H fb p lm l ab p.vars.length true st':=by
 generalize hR:nE p l (lft p a) a=R;have hvl:=hs.vars;have hal:=ok.len;have hfl:=AB hf;have hbl:=AB hb;have hB:∀x∈[fb,ab],x<h.length:=fun x hx=>by simp at hx; omega
 refine acL Tryz.func183 [.tmp 2,.tmp 3] ?_;refine AQ @rD @YJ ?_;refine AKZ (.ones [0,1,2,3,4,5,6,7] (.alt 8 (.ones [9] .done) .non)) AZ ?_;simp only[DN,NC,List.getElem?_cons_succ,List.getElem?_cons_zero];refine EO @tY @VF @hf.pr @hf.as ?_;have hE:=AUB G p hs a ab hal h hb;rw[hal] at hE;refine⟨ACalls.mono hE ?_,trivial⟩;rintro v0 H1 ⟨hx1,ho1⟩;have k1:KB [fb,ab] h H1:=⟨hx1.le,fun i y q _=>EJ hx1 q⟩;have hf1:isF H1 fb p lm l ab p.vars.length false st:=EJ hx1 hf;have hb1:isI H1 ab a:=EJ hx1 hb;refine DI @AZL @AZM @YJ ?_;refine D9 0 (fun F H=>KB [fb,ab] h H∧R=none∧∃st',isF H fb p lm l ab p.vars.length true st') (fun F H=>KB [fb,ab] h H∧∃b,R=some b∧F 3=.bool true∧cpO h H b (F 2)) ?_ ?_ ?_
 .refine BB (fun n F H=>∃ov c b st,F 0=.ptr fb 0 0∧KB [fb,ab] h H∧b.length=p.vars.length∧outG 2 FY h (OX p.vars b) (F 4) H∧isF H fb p lm l ab p.vars.length ov st∧c.length=p.vars.length∧isI H ab c∧(ov=true->R=none)∧(ov=false->n=lft p c∧AOk p c∧nE p l (lft p c) c=R∧(lft p c:Int)<=st∧st<=262144)) (lft p a)
   ⟨false,a,a,st,AC,k1,hal,by refine Z ?_; exact ho1,hf1,hal,hb1,(fun q=>by cases q),fun _=>⟨rfl,ok,hR,hst,hst2⟩⟩ ?_
  clear hf hb hf1 hb1 k1 ho1 hx1 hst hst2;rintro n F H ⟨ov,c,b,st,f0,k1,hbn,ho,hf,hcn,hb,hov,hno⟩
  cases ov with
  | true =>
    refine DI @gX f0 @hf.ovd ?_;exact⟨k1,hov rfl,st,hf⟩
  | false =>
    obtain⟨rfl,okc,hS,hs1,hs2⟩:=hno rfl;have hpos:=AR6 okc;have z1:IntKind.i64.wrap (st-1)=st-1:=wrap_i64 U U;have b1:decide (st>0)=true:=by rw[decide_eq_true_eq]; omega
    have k2:=k1.set (b:=fb) A8 (qF 9 [fdr p lm l ab p.vars.length false (st-1)]);have hf2:isF (H.set fb (qF 9 [fdr p lm l ab p.vars.length false (st-1)])) fb p lm l ab p.vars.length false (st-1):=CQ hf;have hb2:isI (H.set fb (qF 9 [fdr p lm l ab p.vars.length false (st-1)])) ab c:=by unfold isI; rw[zL hne]; exact hb
    have ho2:outG 2 FY h (OX p.vars b) (F 4) (H.set fb (qF 9 [fdr p lm l ab p.vars.length false (st-1)])):=ho.setB hfl _;refine VW @VF @gX @ASW f0 @hf.ovd @hf.std b1 z1 @hf.setSt ?_
    generalize H.set fb (qF 9 [fdr p lm l ab p.vars.length false (st-1)])=H2 at k2 hf2 hb2 ho2|-
    refine AQ f0 @hf2.as ?_;have hC:=AEL G hb2 U;rw[hcn] at hC;refine hC.mono ?_;rintro u H3 ⟨hx3,hc3⟩;have k3:KB [fb,ab] h H3:=k2.trans ⟨hx3.le,fun i y q _=>EJ hx3 q⟩;have hf3:isF H3 fb p lm l ab p.vars.length false (st-1):=EJ hx3 hf2;have hb3:isI H3 ab c:=EJ hx3 hb2;have ho3:=Ho.outG_ext ho2 hx3
    have hd3:Dh h p c (fX c b 0) u (F 4) H3:=by
     have e0:fX c b 0=b:=by simp [fX]
     rw[e0];have hel:=XF hbn;rcases hc3 with⟨z,rfl⟩|⟨z,o,q1,rfl,q2⟩
     .have hz:p.vars.length=0:=by rw[<-hcn,z]; rfl
      rcases ho3 with⟨_,w⟩|⟨w,_⟩
      .exact .inl ⟨hz,rfl,w⟩
      .exact absurd (qU U) w
     .have hz:p.vars.length≠0:=fun q=>z (qU U)
      rcases ho2 with⟨w,_⟩|⟨w,eb,p1,p2,p3⟩
      .exact absurd (by rw[<-hel,w]; rfl) hz
      .exact .inr ⟨hz,eb,o,p1,by have:=AB p3; omega,by rw[p2,hel],by rw[hcn],EJ hx3 p3,q2⟩
    have hlen:JQ jA 32 u=some (.n (p.vars.length:Nat)):=by
     rcases hd3 with⟨z,rfl,z3⟩|⟨z,eb,o,q1,q2,q3,rfl,q5,q6⟩
     .simp only[VY,z]; rfl
     .simp only[VY]
    refine AO @hlen ?_;refine D9 2 (fun F' H'=>F' 0=.ptr fb 0 0∧F' 4=F 4∧F' 5=u∧KB [fb,ab] h H'∧isF H' fb p lm l ab p.vars.length false (st-1)∧isI H' ab c∧Dh h p c c u (F 4) H') (fun _ _=>False) ?_ ?_ (fun _ _ q=>q.elim)
    .refine BB (fun n F' H'=>∃i,n+i=p.vars.length∧F' 0=.ptr fb 0 0∧F' 4=F 4∧F' 5=u∧F' 45=u∧F' 46=.n (p.vars.length:Nat)∧F' 47=.n (i:Nat)∧KB [fb,ab] h H'∧isF H' fb p lm l ab p.vars.length false (st-1)∧isI H' ab c∧Dh h p c (fX c b i) u (F 4) H') p.vars.length
      ⟨0,A8,DW f0,AC,AC,AC,AC,AC,k3,hf3,hb3,hd3⟩ ?_
     clear k3 hf3 hb3 hd3;rintro n F2 H' ⟨i,hi,f0,f4,f5,f45,f46,f47,k3,hf3,hb3,hd3⟩;refine AQ f46 f47 ?_;refine DU ?_ ?_<;>intro hi'
     .have hic:i<c.length:=U
      rcases hd3 with⟨z,_⟩|⟨z,eb,o,q1,q2,q3,q4,q5,q6⟩
      .omega
      have hml:=AM6 (c:=c) (b:=b) U i;have hie:i<(OX p.vars (fX c b i)).length:=by rw[XF U]; exact hi'
      have ss:=A2N q5 hie (c.getD i 0);rw[hJ hi' U hie,AOT _ hi' U,AM5 U hic] at ss;have ixe:JM 2 H' (.own eb 0 p.vars.length) (.n (i:Nat))=some (.ptr eb i 0):=by rw[IG q5 hi',jG]
      rw[q4] at f45;rw[q3] at f4;simp -implicitDefEqProofs only[vQ,CJ,↓reduceIte,jC,enP,KJ,AUW,AHB,jQ,f0,f4,f45,f47,q6.ix hi',q6.ld hic,ixe,ss,CW i];refine⟨n-1,U,i+1,U,A7,by first|exact True.intro|(rw[q3]; exact f4)|exact q3.symm,A7,by first|exact True.intro|(rw[q4]; exact f45)|exact q4.symm,A7,A7,⟨by rw[qX]; exact k3.len,fun k y q hm=>?_⟩,?_,?_,.inr ⟨z,eb,o,q1,q2,q3,q4,CQ q5,?_⟩⟩
      .rw[zL (by have:=AB q; omega)]; exact k3.keep k y q hm
      .unfold isF; rw[zL U]; exact hf3
      .unfold isI; rw[zL U]; exact hb3
      .unfold isI; rw[zL U]; exact q6
     .have e1:fX c b i=c:=by unfold fX; rw[jJ U,List.drop_eq_nil_of_le U,List.append_nil]
      rw[e1] at hd3;refine Z ?_;exact⟨A7,A7,A7,k3,hf3,hb3,hd3⟩
    clear k3 hf3 hb3 hd3 ho3 hc3 hx3 ho2 hb2 hf2 k2 ho hf hb hov hno k1;rintro F2 H' ⟨f0,f4,f5,k3,hf3,hb3,hd3⟩;have hA:=uU G p hs P lm l (st-1) c okc fb ab hne H' (by rw[hcn]; exact hf3) hb3;rw[hcn] at hA;refine AO f0 ?_;refine hA.mono ?_;rintro _ H4 ⟨kA,post⟩;have k4:=k3.trans kA;have hd4:=hd3.kb kA hB;generalize hN:nxK p.vars p.vars.length c=O at post
    obtain⟨ov',c',hf4,hc'n,hb4,ho1,ho2⟩:∃ov' c',isF H4 fb p lm l ab p.vars.length ov' (st-1)∧c'.length=p.vars.length∧isI H4 ab c'∧(ov'=true->O=none)∧(ov'=false->O=some c'):=by
     cases O with
     | none =>
       obtain⟨q1,c',q2,q3⟩:=post;exact⟨true,c',q1,U,q3,fun _=>rfl,fun q=>by cases q⟩
     | some c' =>
       obtain⟨q1,q2⟩:=post;exact⟨false,c',q1,(yW okc hN).1.len,q2,(fun q=>by cases q),fun _=>rfl⟩
    clear post hA
    have go:ACZ p l c≠true->(ov'=true->R=none)∧(ov'=false->AOk p c'∧lft p c'+1=lft p c∧nE p l (lft p c') c'=R):=fun hns=>by
     obtain⟨k,hk'⟩:∃k,lft p c=k+1:=⟨lft p c-1,U⟩;rw[hk'] at hS;unfold nE at hS;rw[if_neg hns,hN] at hS;constructor
     .intro q
      rw[ho1 q] at hS;exact hS.symm
     .intro q
      rw[ho2 q] at hN hS;have hS:nE p l k c'=R:=hS;obtain⟨n1,n2⟩:=yW okc hN;refine⟨n1,n2,?_⟩;rw[<-hS,show lft p c'=k by omega]
    have hdone:ACZ p l c=true->R=some c:=fun q=>by
     obtain⟨k,hk'⟩:∃k,lft p c=k+1:=⟨lft p c-1,U⟩;rw[hk'] at hS;unfold nE at hS;rw[if_pos q] at hS;exact hS.symm
    refine DI @ASX f0 @hf4.es ?_
    refine BB (fun n F' H'=>∃i,n+i=l.length∧F' 0=.ptr fb 0 0∧F' 4=F 4∧F' 5=u∧F' 63=.sl lm 4 (l.map AY)∧F' 64=.n (l.length:Nat)∧F' 65=.n (i:Nat)∧KB [fb,ab] h H'∧isF H' fb p lm l ab p.vars.length ov' (st-1)∧isI H' ab c'∧Dh h p c c u (F 4) H'∧∀e∈l.take i,YK (OX p.vars c) e≠0) l.length
     ⟨0,A8,DW f0,DW f4,DW f5,AC,AC,AC,k4,hf4,hb4,hd4,A8⟩ ?_
    clear f0 f4 f5 k3 hf3 hb3 hd3 k4 hf4 hb4 hd4 kA;rintro n F2 H' ⟨i,hi,f0,f4,f5,f63,f64,f65,k4,hf4,hb4,hd4,hsat⟩;refine AQ f64 f65 ?_;refine DU ?_ ?_<;>intro hi'
    .have hmem:=List.getElem_mem hi'
     have k5:=k4.app (qF 4 [AY l[i]]);have hf5:isF (H'++[qF 4 [AY l[i]]]) fb p lm l ab p.vars.length ov' (st-1):=AL hf4;have hb5:isI (H'++[qF 4 [AY l[i]]]) ab c':=AL hb4;have hd5:=hd4.kb ((KB.rfl' [fb,ab] H').app (qF 4 [AY l[i]])) hB;have gE:=AX H' (qF 4 [AY l[i]]);simp -implicitDefEqProofs only[vQ,CJ,↓reduceIte,jC,enP,PK,jQ,f63,f65,CG hi',CY OZ I8 EF hi',al79,st79]
     generalize H'++[qF 4 [AY l[i]]]=H5 at k5 hf5 hb5 hd5 gE|-
     refine AQ (IW gE) f4 ?_;have hel:=XF (vars:=p.vars) hcn;refine(AQJ G hG (OX p.vars c) (F 4) h H5 (hd5.env hcn) l[i] U (hw _ hmem)).use ?_;have hev:evV (evE (OX p.vars c) l[i])=.tup [.n (YK (OX p.vars c) l[i]:Nat),.n 0]:=by rw[A0B (hk _ hmem) hcn]; rfl
     rw[hev];refine Z ?_;refine BG ?_ ?_<;>intro hz
     .have hz:YK (OX p.vars c) l[i]=0:=BL hz
      have hns:ACZ p l c≠true:=fun q=>by
       unfold ACZ at q;rw[zJ] at q;have:=q _ hmem;rw[hz] at this; simp at this
      obtain⟨g1,g2⟩:=go hns;refine Z ?_
      cases hq:ov' with
      | true =>
        refine⟨0,hpos,true,c',c,st-1,A7,k5,hcn,?_,by rw[<-hq]; exact hf5,hc'n,hb5,fun _=>g1 hq,fun q=>by cases q⟩
        first|(rw[f4]; exact hd5.env hcn)|exact hd5.env hcn
      | false =>
        obtain⟨n1,n2,n3⟩:=g2 hq;refine⟨lft p c',U,false,c',c,st-1,A7,k5,hcn,?_,by rw[<-hq]; exact hf5,hc'n,hb5,(fun q=>by cases q),fun _=>⟨rfl,n1,n3,U,U⟩⟩
        first|(rw[f4]; exact hd5.env hcn)|exact hd5.env hcn
     .have hz:YK (OX p.vars c) l[i]≠0:=BL hz
      refine AQ f65 (CW i) ?_;refine⟨n-1,U,i+1,U,A7,A7,A7,A7,A7,A7,k5,hf5,hb5,hd5,fun e he=>?_⟩;rw[jW hi'] at he;rcases List.mem_append.1 he with h1|h1
      .exact hsat e h1
      .rw[List.mem_singleton.1 h1]; exact hz
    .rw[jJ U] at hsat
     have hs1:ACZ p l c=true:=by
      unfold ACZ;rw[zJ];intro e he;have:=hsat e he;simpa using this
     refine AO f5 ?_;exact⟨k4,c,hdone hs1,A7,hd4.cpy hcn⟩
 .rintro F H ⟨k1,ho,st',hf⟩
  refine Z ?_;refine⟨k1,?_⟩;rw[ho];exact⟨A7,st',hf⟩
 .rintro F H ⟨k1,b,ho,f3,hc⟩
  refine AO f3 ?_;refine⟨k1,?_⟩;rw[ho];exact⟨_,A7,hc⟩
end
def FstQ (r:Option (List Int))(v:AV):Prop:=match r with
 | some a=>∃m,m≠.nil∧v=.tup [.sl m 1 (a.map Bins.qencI),.n 0]
 | none=>v=.tup [.sl .nil 0 [],.n 11]
theorem KB.ext {h H H':Hp}{B:List Nat}(hx:Sm.ext h H)(k:KB B H H')(hB:∀b∈B,h.length<=b):Sm.ext h H' :=
 AOQ (fun i y q=>k.keep i y (EJ hx q) (fun hm=>by have:=hB _ hm; have:=AB q; omega)) (Nat.le_trans hx.le k.len)
section
variable (G:Nat->AV)
theorem AFA (hG:GOk G)(p:Pr)(hs:PrS p)(hv:JY p=0)(lm:SM)(l:List Ex)(hl:l.length<=1048576)(hw:∀e∈l,wt e<=1048576)(hk:∀e∈l,xpE p.vars e=0)(hst:lft p (bH p)<=262144)(h:Hp):
  QCall (En G) 100 [.agg (CX p),.sl lm 4 (l.map AY),.n 262144] h (FstQ (TT p l)):=by
 have P:=PV.of hv;have okf:=ASP P;refine ACalls.pureQ (R:=fun v H=>Sm.ext h H∧FstQ (TT p l) (FI h.length H 3 v)) 3 ?_ (fun v H ⟨a,b⟩=>⟨a,b⟩);refine acL Tryz.func100 [.tmp 6,.tmp 7] ?_;have ge:=AX h (qF 5 [CX p]);have hx:Sm.ext h (h++[qF 5 [CX p]]):=(ext.rfl' h).app _;refine AO @SS ?_
 generalize h++[qF 5 [CX p]]=H0 at ge hx|-
 have lp:BO jA H0 27 (.ptr h.length 0 0)=some (.agg (CX p)):=by rw[EH mP fR ge (row:=CX p) rfl (by rw[NV]; exact jF 5)]; rfl
 refine AO lp ?_;refine(AEU G hG p hs hv lm l hl hw hk H0).mono ?_;rintro v H1 ⟨hx1,fb,ab,hfb,hab,hne,rfl,hf,hb⟩;have hx01:=hx.trans hx1;have hxl:=hx.le;refine AO (show((0:Int) != 0)=false from rfl) ?_;refine(AN4 G hG p hs P lm l hl hw hk 262144 (bH p) okf fb ab hne H1 U U hf hb).mono ?_;rintro v H2 ⟨k,post⟩;have hx2:Sm.ext h H2:=KB.ext hx01 k (fun b hb=>by simp at hb; omega);have hxx:=hx01.le;unfold TT
 cases hr:nE p l (lft p (bH p)) (bH p) with
 | some a =>
   rw[hr] at post;obtain⟨u,rfl,hc⟩:=post;refine Z ?_;refine⟨hx2,?_⟩;rcases hc with⟨rfl,rfl⟩|⟨hne2,o,ho,rfl,hb2⟩
   .exact⟨.full,by decide,rfl⟩
   .refine⟨.any,by decide,?_⟩
    show AV.tup [FI h.length H2 2 (.own o 0 a.length),FI h.length H2 2 (.n 0)]=_;rw[Cov.frz_own Cov.frzI (U:h.length<=o) hb2]; rfl
 | none =>
   rw[hr] at post;obtain⟨rfl,st',hf2⟩:=post;refine AQ @gX @hf2.ovd ?_;exact⟨hx2,rfl⟩
def AD3 (r:Option (List Int)):AV:=match r with
 | some a=>.tup [.sl .any 1 (a.map Bins.qencI),.n 0]
 | none=>.tup [.sl .nil 0 [],.n 11]
theorem FstQ.cv {r:Option (List Int)}(h:FstQ r v):CvR v (AD3 r):=by
 cases r with
 | none=>rw[show v=_ from h]; exact CvR.refl _
 | some a =>
   obtain⟨m,hm,rfl⟩:=h;exact CvR.tup (CvRL.cons (CvR.sl (Cv.any hm 1 _)) (CvRL.cons (CvR.refl _) CvRL.nil))
theorem AUA (hG:GOk G)(p:Pr)(hs:PrS p)(hv:JY p=0)(lm:SM)(l:List Ex)(hl:l.length<=1048576)(hw:∀e∈l,wt e<=1048576)(hk:∀e∈l,xpE p.vars e=0)(hst:lft p (bH p)<=262144)(h:Hp):
  PCall (En G) 100 [.agg (CX p),.sl lm 4 (l.map AY),.n 262144] h (AD3 (TT p l)) :=
 ACalls.conv (AFA G hG p hs hv lm l hl hw hk hst h) fun _ _ ⟨q,e⟩=>⟨_,⟨rfl,e⟩,q.cv⟩
end
end Go.Proofs.YtiihpnicbekebaaGreatDoor.Bd.Cl
namespace Go.Proofs.YtiihpnicbekebaaGreatDoor.Bd.Cl
open Sm Bins Cov Xe Wd Bl Ho Go.RowKit
variable {s:ByteArray} {a e:Ex} {vs:List Vr} {H:Hp} {b:Nat} {c d:Int} (G:Nat->AV )
theorem X6 (h:ER s=true):s.size<=16:=by
 unfold ER at h;have:=(Bool.and_eq_true_iff.1 (Bool.and_eq_true_iff.1 h).1).2;simpa using this
theorem sD (s:ByteArray):s.size=s.data.toList.length:=(Array.length_toList).symm
theorem AKI (h:(JK s).isSome=true):s.size<=19:=by
 unfold JK at h;split at h
 .rename_i h4
  split at h
  .split at h
   .rename_i hc
    have hn:=(Bool.and_eq_true_iff.1 hc).2;have:=X6 hn
    rw[sD] at this|-
    simp at this
    simp at h4|-
    omega
   .cases h
  .cases h
 .cases h
theorem ALQ (h:FK s=true):s.size<=19:=by
 unfold FK at h;rcases Bool.or_eq_true_iff.1 h with q|q
 .exact AKI q
 .have:=X6 q; omega
theorem yP (h:ND s=true):s.size=0:=by
 unfold ND at h;have:=str_eq h;rw[this]; rfl
theorem oZ (h:HY e=0):e.name.size<=19:=by
 unfold HY at h
 have hO:badO e=false:=by
  cases hb:badO e
  .rfl
  .rw[hb] at h; simp at h
 have hN:V3 e=false:=by
  cases hb:V3 e
  .rfl
  .rw[hO,hb] at h; simp at h
 have hS:TB e=false:=by
  cases hb:TB e
  .rfl
  .rw[hO,hN,hb] at h; simp at h
 have hV:UH e=false:=by
  cases hb:UH e
  .rfl
  .rw[hO,hN,hS,hb] at h; simp at h
 unfold TB at hS;rw[wB] at hS;have h1:=hS.1;unfold UH at hV;rw[wB] at hV;obtain⟨v1,v2⟩:=hV;cases hn:ND e.name
 .rw[hn] at h1
  have h1:KN e.op=true:=BL h1;unfold KN at h1;simp only[Bool.or_eq_true,beq_iff_eq] at h1;rcases h1 with (q|q)|q
  .rw[q] at v1
   exact ALQ (BL v1)
  .rw[q] at v2
   have:=X6 (s:=e.name) (BL v2);omega
  .rw[q] at v2
   have:=X6 (s:=e.name) (BL v2);omega
 .rw[yP hn]; omega
theorem AUH (B:Nat)(e:Ex):(∀x∈pre e,x.name.size<=B)->wt e<=(pre e).length*(B+1):=by
 induction e using Ex.induct with|h e ih=>?_
 intro h
 have hl:∀xs:List Ex,(∀a∈xs,wt a<=(pre a).length*(B+1))->wts xs<=(E8 xs).length*(B+1):=by
  intro xs
  induction xs with
  | nil=>intro _; simp [wts]
  | cons x xs ihx =>
    intro hx;have h1:=hx x A8;have h2:=ihx fun a ha=>hx a (by simp [ha])
    simp only[wts,E8,jS,qC]; omega
 have h1:=hl e.args fun a ha=>ih a ha fun x hx=>h x (by rw[pre_eq]; exact List.mem_cons_of_mem _ (X0 ha x hx))
 have h2:=h e (by rw[pre_eq]; simp);rw[MH,pre_eq,zH,qC]; omega
theorem AS1 (h0:exE e=0):(pre e).length<=400:=by
 unfold exE at h0;split at h0
 .cases h0
 .rename_i q; rw[h0] at q; simp at q; omega
theorem AOR (h:exE e=0):wt e<=8000:=by
 have h1:=AUH 19 e fun x hx=>oZ (dO h x hx)
 have h2:=AS1 h;omega
theorem AKE {xs:List Ex}(h:∀x∈xs,HY x=0):errs xs=0:=by
 induction xs with
 | nil=>rfl
 | cons y ys ih =>
   show ys.foldl (fun z e=>if z=0 then HY e else z) (HY y)=0;rw[h y A8];exact ih fun x hx=>h x (by simp [hx])
def Gd (vs:List Vr)(x:Ex):Prop:=HY x=0∧OI x=false∧O4 vs x=false
theorem AUY (h:∀x∈pre e,Gd vs x)(hd:dep e<=24)(hl:(pre e).length<=400):xpE vs e=0:=by
 have h1:exE e=0:=by
  unfold exE;rw[AKE fun x hx=>(h x hx).1,if_neg U]
 have h2:mL e=false:=qM.2 fun x hx=>by rw[(h x hx).2.1]; simp
 have h3:gB vs e=false:=qM.2 fun x hx=>by rw[(h x hx).2.2]; simp
 unfold xpE;rw[if_neg (by rw[h1]; simp)];unfold plE;rw[h2,h3]; rfl
theorem sS:ND (⟨#[]⟩:ByteArray)=true:=by unfold ND; exact beq_self_eq_true _
theorem AN9 {n:Int}(h:0<=n∧n<=65535):∀x∈pre (cE n),Gd vs x:=by
 intro x hx;have e:x=cE n:=by simpa [cE,pre,E8] using hx
 subst e;refine⟨?_,rfl,rfl⟩
 have b:V3 (cE n)=false:=by
  have:V3 (cE n)=((true&&(decide (n<0)||decide (n>65535)))||(false && !(n==0))):=rfl;rw[this];simp; omega
 have b2:TB (cE n)=false:=by
  have:TB (cE n)=((!KN 1 && !ND (⟨#[]⟩:ByteArray)) || !TS 1 0):=rfl;rw[this,sS]; rfl
 unfold HY;rw[b,b2]; rfl
theorem AGV {n:ByteArray}(h:FK n=true)(hp:0<=plc vs n):∀x∈pre (I9 n),Gd vs x:=by
 intro x hx;have e:x=I9 n:=by simpa [I9,pre,E8] using hx
 subst e;refine⟨?_,rfl,?_⟩
 .have b:UH (I9 n)=false:=by
   have:UH (I9 n)=((true && !FK n)||((false||false) && !ER n)):=rfl;rw[this,h]; rfl
  unfold HY;rw[b]; rfl
 .have:O4 vs (I9 n)=(true&&decide (plc vs n<0)):=rfl
  rw[this]; simp; omega
theorem pB {x:Ex}{xs:List Ex}(h:x∈E8 xs):∃a∈xs,x∈pre a:=mem_pres.1 h
theorem AGX {l:List Rng}(he:∀x∈pre e,Gd vs x)(h0:l≠[])(h16:l.length<=16)(hl:∀r∈l,0<=r.lo∧r.lo<=65535∧0<=r.hi∧r.hi<=65535):∀x∈pre (JI e l),Gd vs x:=by
 intro x hx;rw[YA,pre_eq] at hx;rcases zK.1 hx with rfl|hx
 .have hlen:(insL e l).length=1+2*l.length:=by unfold insL; rw[zH,hU]; omega
  have hp:0<l.length:=qQ.2 h0;refine⟨?_,rfl,rfl⟩
  have b:TB (.mk 23 0 ⟨#[]⟩ .any (insL e l))=false:=by
   have:TB (.mk 23 0 ⟨#[]⟩ .any (insL e l))=((!KN 23 && !ND (⟨#[]⟩:ByteArray)) || !TS 23 (insL e l).length):=rfl;rw[this,hlen,sS];unfold TS;simp;omega
  unfold HY;rw[b]; rfl
 .obtain⟨a,ha,hxa⟩:=pB hx
  have ha:a∈insL e l:=ha;unfold insL at ha;rcases zK.1 ha with rfl|ha
  .exact he x hxa
  .unfold cEs at ha
   obtain⟨r,hr,hm⟩:=List.mem_flatMap.1 ha;have:=hl r hr;simp only[zK,List.not_mem_nil,or_false] at hm;rcases hm with rfl|rfl
   .exact AN9 U x hxa
   .exact AN9 U x hxa
theorem AWU {b:Ex}(ha:∀x∈pre a,Gd vs x)(hb:∀x∈pre b,Gd vs x):∀x∈pre (orE a b),Gd vs x:=by
 intro x hx;unfold orE at hx;rw[pre_eq] at hx;rcases zK.1 hx with rfl|hx
 .refine⟨?_,rfl,rfl⟩
  have b2:TB (.mk 20 0 ⟨#[]⟩ .full [a,b])=false:=by
   have:TB (.mk 20 0 ⟨#[]⟩ .full [a,b])=((!KN 20 && !ND (⟨#[]⟩:ByteArray)) || !TS 20 2):=rfl;rw[this,sS]; rfl
  unfold HY;rw[b2]; rfl
 .obtain⟨c,hc,hxc⟩:=pB hx
  have hc:c∈[a,b]:=hc;simp only[zK,List.not_mem_nil,or_false] at hc;rcases hc with rfl|rfl
  .exact ha x hxc
  .exact hb x hxc
theorem kD:∀l:List Rng,(E8 (cEs l)).length=2*l.length
 | []=>rfl
 | r::l=>by
   rw[XK];have:=kD l;simp only[E8,jS,this,zH];simp [cE,pre,E8]; omega
theorem lS:∀l:List Rng,deps (cEs l)<=1
 | []=>qG _
 | r::l=>by
   rw[XK];have:=lS l;simp only[deps];simp [cE,dep,deps]; omega
theorem yX (n:ByteArray)(R:List Rng):∀k,(pre (OG (I9 n) R k)).length<=35*(k+1)∧dep (OG (I9 n) R k)<=k+2
 | 0=>by
   have hp:=QK R 0;show(pre (JI (I9 n) (Ho.part R 0))).length<=_∧dep (JI (I9 n) (Ho.part R 0))<=_;rw[YA,pre_eq,Z4];show(_::E8 (insL (I9 n) (Ho.part R 0))).length<=_∧deps (insL (I9 n) (Ho.part R 0))+1<=_;have h1:=kD (Ho.part R 0);have h2:=lS (Ho.part R 0);unfold insL;simp only[E8,deps,zH,jS,h1];simp [I9,pre,E8,dep,deps]; omega
 | k+1=>by
   have ih:=yX n R k;have hp:=QK R (k+1);have h1:=kD (Ho.part R (k+1));have h2:=lS (Ho.part R (k+1))
   have e1:(pre (JI (I9 n) (Ho.part R (k+1)))).length<=34∧dep (JI (I9 n) (Ho.part R (k+1)))<=2:=by
    rw[YA,pre_eq,Z4];show(_::E8 (insL (I9 n) (Ho.part R (k+1)))).length<=_∧deps (insL (I9 n) (Ho.part R (k+1)))+1<=_;unfold insL;simp only[E8,deps,zH,jS,h1];simp [I9,pre,E8,dep,deps]; omega
   show(pre (orE (OG (I9 n) R k) (JI (I9 n) (Ho.part R (k+1))))).length<=_∧dep (orE (OG (I9 n) R k) (JI (I9 n) (Ho.part R (k+1))))<=_;unfold orE;rw[pre_eq,Z4];show(_::E8 [OG (I9 n) R k,JI (I9 n) (Ho.part R (k+1))]).length<=_∧deps [OG (I9 n) R k,JI (I9 n) (Ho.part R (k+1))]+1<=_;simp only[E8,deps,zH,jS,List.append_nil];omega
theorem AGW {vs:List Vr}{n:ByteArray}(h:FK n=true)(hp:0<=plc vs n){R:List Rng}(hR:∀r∈R,0<=r.lo∧r.lo<=65535∧0<=r.hi∧r.hi<=65535):∀k,16*k<R.length->∀x∈pre (OG (I9 n) R k),Gd vs x
 | 0,hk=>by
   show ∀x∈pre (JI (I9 n) (Ho.part R 0)),_;refine AGX (AGV h hp) ?_ (QK R 0) fun r hr=>hR r ?_
   .unfold Ho.part; intro e
    have:=congrArg wH e;rw[jU,List.length_drop,zN] at this; omega
   .unfold Ho.part at hr; exact List.mem_of_mem_drop (List.mem_of_mem_take hr)
 | k+1,hk=>by
   show ∀x∈pre (orE (OG (I9 n) R k) (JI (I9 n) (Ho.part R (k+1)))),_;refine AWU (AGW h hp hR k U) (AGX (AGV h hp) ?_ (QK R (k+1)) fun r hr=>hR r ?_)
   .unfold Ho.part; intro e
    have:=congrArg wH e;rw[jU,List.length_drop,zN] at this; omega
   .unfold Ho.part at hr; exact List.mem_of_mem_drop (List.mem_of_mem_take hr)
theorem ARF {v:Vr}(h:v∈vs):0<=plc vs v.name:=by
 apply Classical.byContradiction;intro q;have:=dF (NE v.name) vs (by unfold plc at q; omega) v h;unfold NE at this;simp at this
theorem AVZ {p:Pr}(hv:JY p=0):∀e∈WA p,xpE p.vars e=0:=by
 intro e he;have P:=PV.of hv;unfold WA at he;obtain⟨d,hd,rfl⟩:=List.mem_map.1 he;obtain⟨d1,d2⟩:=AHL hv d hd;obtain⟨k,hk,hdk,hm⟩:=XY d1;obtain⟨n1,w1,w8,_⟩:=U1 (P.vr _ (jH hk))
 have hsup:vN p d=nC p.vars[k].name (runs d.ws (2^p.vars[k].width.toNat)):=by
  unfold vN;rw[hdk,Int.toNat_natCast,List.getElem?_eq_getElem hk]
 have hW:(2:Nat)^p.vars[k].width.toNat<=256:=by
  have:p.vars[k].width.toNat<=8:=U
  calc (2:Nat)^p.vars[k].width.toNat<=2^8:=Nat.pow_le_pow_right DK this
   _=256:=rfl
 have hr:=AMF d.ws (2^p.vars[k].width.toNat);have hi:=AF1 d.ws (2^p.vars[k].width.toNat);rw[hsup];generalize runs d.ws (2^p.vars[k].width.toNat)=R at hr hi;unfold nC;by_cases q:R=[]
 .rw[if_pos q]
  exact AUY (AN9 U) (by simp [cE,dep,deps]) (by simp [cE,pre,E8])
 .rw[if_neg q]
  have hp:0<R.length:=qQ.2 q;have hk2:parts R-1<=2:=by unfold parts; omega
  obtain⟨l1,l2⟩:=yX p.vars[k].name R (parts R-1);exact AUY (AGW n1 (ARF (jH hk)) (fun r hr=>by have:=hi r hr; omega) _ (by unfold parts; omega)) U U
theorem AX4 (h:xpE vs e=0):wt e<=8000:=AOR (ALJ h).1
theorem AYP:∀(k:Nat),k<9->∀h:Hp,IQ jA h 9 (.str AHU) (some (.n (k:Nat))) (some (.n ((k+1:Nat):Int))) none=some (.str (dgS k))
 | 0,_,h=>AZ
 | 1,_,h=>AZ
 | 2,_,h=>AZ
 | 3,_,h=>AZ
 | 4,_,h=>AZ
 | 5,_,h=>AZ
 | 6,_,h=>AZ
 | 7,_,h=>AZ
 | 8,_,h=>AZ
 | n+9,q,_=>absurd q U
theorem vY (k:Nat)(hk:k<9)(h:Hp):PCall (En G) 396 [.n (k:Nat)] h (.str (dgS k)):=by
 refine acT Tryz.func396 2 ?_;have hd:decide (((k:Nat):Int)<10)=true:=by simp; omega
 have:=AYP k hk h;unfold AHU at this;refine DI hd (CW k) @this ?_;exact G8
theorem AE8 (k:Nat)(hk:k<9)(h:Hp):PCall (En G) 288 [.n (k:Nat)] h (.str (dgS k)):=by
 have h1:PCall (En G) 358 [.n (k:Nat),.n 10] h (.str (dgS k)):=by
  refine acT Tryz.func358 4 ?_;have d1:((10:Int)==10)=true:=rfl;have d2:decide ((0:Int)<=((k:Nat):Int))=true:=A8;have d3:decide (((k:Nat):Int)<100)=true:=by simp; omega
  refine DI d1 d2 d3 ?_;refine(vY G k hk h).uu ?_;exact G8
 have h2:PCall (En G) 324 [.n (k:Nat)] h (.str (dgS k)):=by
  refine acT Tryz.func324 2 ?_;refine Z ?_;refine h1.uu ?_;exact G8
 refine acT Tryz.func288 2 ?_;refine Z ?_;refine h2.uu ?_;exact G8
theorem lN (a:ByteArray)(k:Nat)(hk:k<9)(h:Hp)(ha:a.size<=1048576):PCall (En G) 233 [.str a,.n (k:Nat)] h (.str (elN a k)):=by
 refine acT Tryz.func233 4 ?_;obtain⟨b1,b2,b3⟩:=AXR a k ha;refine AO b1 ?_;refine(AE8 G k hk h).use ?_;refine AQ b2 b3 ?_;exact G8
theorem AM0 (a:ByteArray):FK (elN a 8)=false:=by
 have hl:=PE a 8;unfold FK
 have h1:JK (elN a 8)=none:=by
  unfold JK;rw[hl];have e:(a.data.toList++[91,UInt8.ofNat (48+8),93]).length-3=a.data.toList.length:=A8;rw[e,List.drop_left];split
  .dsimp only
   rw[if_neg];intro q;simp only[Bool.and_eq_true,decide_eq_true_eq] at q;exact absurd q.1.2 DK
  .rfl
 have h2:ER (elN a 8)=false:=by
  cases hn:ER (elN a 8)
  .rfl
  .have e:elN a 8=⟨(elN a 8).data.toList.toArray⟩:=A8
   rw[e] at hn;have:=(RG hn).2 91 (by rw[hl]; simp);exact absurd rfl this
 rw[h1,h2]; rfl
theorem ARD (hv:∀v∈vs,FK v.name=true)(a:ByteArray):plc vs (elN a 8)<0:=by
 apply Classical.byContradiction;intro q;obtain⟨k,hk,_,h1,_⟩:=WY (NE (elN a 8)) vs (by unfold plc at q; omega);have:=str_eq h1;have h2:=hv _ (jH hk);rw[this,AM0] at h2; cases h2
def szF (vs:List Vr)(a:ByteArray):Nat->Nat->Nat
 | 0,n=>n
 | f+1,n=>if plc vs (elN a n)<0 then n else szF vs a f (n+1)
def szA (vs:List Vr)(a:ByteArray):Nat:=szF vs a 8 0
theorem ALY (vs:List Vr)(a:ByteArray):∀f n,n<=szF vs a f n∧szF vs a f n<=n+f
 | 0,n=>⟨jF _,jF _⟩
 | f+1,n=>by
   unfold szF;split
   .omega
   .have:=ALY vs a f (n+1); omega
theorem sE (vs:List Vr)(a:ByteArray):szA vs a<=8:=by have:=(ALY vs a 8 0).2; unfold szA; omega
theorem ALZ (vs:List Vr)(a:ByteArray):∀f n k,n<=k->k<szF vs a f n->0<=plc vs (elN a k)
 | 0,n,k,h1,h2=>by unfold szF at h2; omega
 | f+1,n,k,h1,h2=>by
   unfold szF at h2;split at h2
   .omega
   .rename_i q
    by_cases e:n=k
    .subst e; omega
    .exact ALZ vs a f (n+1) k U h2
theorem ACQ {a:ByteArray}{k:Nat}(h:k<szA vs a):0<=plc vs (elN a k):=ALZ vs a 8 0 k (qG _) h
theorem vL {a:ByteArray}{f n:Nat}:(plc vs (elN a n)<0->szF vs a (f+1) n=n)∧(¬plc vs (elN a n)<0->szF vs a (f+1) n=szF vs a f (n+1)):=by
 constructor<;>intro h<;>(conv=>lhs; unfold szF)
 .rw[if_pos h]
 .rw[if_neg h]
section
variable (G:Nat->AV)
theorem size_prog (vs:List Vr)(m:SM)(hl:vs.length<=1048576)(hv:∀v∈vs,FK v.name=true)(a:ByteArray)(ha:a.size<=1048576)(h:Hp):PCall (En G) 252 [.agg [.sl m 4 (vs.map encV)],.str a] h (.n (szA vs a:Nat)):=by
 refine ACalls.pure0 rfl ?_;refine acT Tryz.func252 4 ?_;have gs:=AX h (qF 1 [[.sl m 4 (vs.map encV)]]);have hx:Sm.ext h (h++[qF 1 [[.sl m 4 (vs.map encV)]]]):=(ext.rfl' h).app _;have bx:MP h (.agg [.sl m 4 (vs.map encV)])=some (.ptr h.length 0 0,h++[qF 1 [[.sl m 4 (vs.map encV)]]]):=rfl;refine AO bx ?_
 generalize h++[qF 1 [[.sl m 4 (vs.map encV)]]]=H0 at gs hx|-
 have l0:BO jA H0 22 (.ptr h.length 0 0)=some (.sl m 4 (vs.map encV)):=by rw[BH YQ gs rfl]; rfl
 refine BB (fun k F H=>∃n,k+n=8∧szF vs a k n=szA vs a∧F 1=.str a∧F 2=.ptr h.length 0 0∧F 5=.n (n:Nat)∧H=H0) 8
  ⟨0,rfl,rfl,AC,AC,AC,rfl⟩ ?_
 rintro k F H ⟨n,hn,hs,f1,f2,f5,rfl⟩
 try refine Z ?_
 refine DJ AZ ?_;refine JL @AHA f1 f2 f5 l0 ?_;refine⟨_,lN G a n U H ha,_,index_prog G vs m (elN a n) H U,?_⟩;refine Z ?_;refine BG ?_ ?_<;>intro hc
 .have hc:¬plc vs (elN a n)<0:=BL hc
  obtain⟨j,rfl⟩:∃j,k=j+1:=⟨k-1,by
   have:k≠0:=fun e=>hc (by have:n=8:=U
                           rw[this]; exact ARD hv a)
   omega⟩
  rw[vL.2 hc] at hs;refine AQ f5 (CW n) ?_;exact⟨j,U,n+1,U,hs,A7,A7,A7,A7⟩
 .have hc:plc vs (elN a n)<0:=by
   have:=of_decide_eq_false hc;omega
  have e:szA vs a=n:=by
   rw[<-hs]
   cases k with
   | zero=>rfl
   | succ k=>exact vL.1 hc
  refine AO f5 ?_;exact⟨by rw[e],hx⟩
end
theorem node_ops (h:HY e=0):TS e.op e.args.length=true:=by
 unfold HY at h
 have hO:badO e=false:=by
  cases hb:badO e
  .rfl
  .rw[hb] at h; simp at h
 have hN:V3 e=false:=by
  cases hb:V3 e
  .rfl
  .rw[hO,hb] at h; simp at h
 have hS:TB e=false:=by
  cases hb:TB e
  .rfl
  .rw[hO,hN,hb] at h; simp at h
 unfold TB at hS;rw[wB] at hS;simpa using hS.2
theorem cF (h:HY e=0)(ho:e.op=1∨e.op=2∨e.op=24):e.args=[]:=by
 have h1:=node_ops h;unfold TS at h1;rw[if_neg (by rcases ho with q|q|q<;>rw[q]<;>decide)] at h1
 have ha:arity e.op=0:=by rcases ho with q|q|q<;>rw[q]<;>rfl
 rw[ha] at h1;exact List.eq_nil_of_length_eq_zero (BL h1)
theorem UK (h:HY e=0)(ho:e.op=3):∃a,e.args=[a]:=by
 have h1:=node_ops h;unfold TS at h1;rw[if_neg (by rw[ho]; decide)] at h1;have ha:arity e.op=1:=by rw[ho]; rfl
 rw[ha] at h1;have h2:((e.args.length:Nat):Int)=1:=BL h1;have h2:e.args.length=1:=U
 match hq:e.args,h2 with
 | [a],_=>exact⟨a,rfl⟩
theorem AWE (h:HY e=0)(ho:e.op=1):0<=e.n∧e.n<=65535:=by
 unfold HY at h
 have hO:badO e=false:=by
  cases hb:badO e
  .rfl
  .rw[hb] at h; simp at h
 have hN:V3 e=false:=by
  cases hb:V3 e
  .rfl
  .rw[hO,hb] at h; simp at h
 unfold V3 at hN;rw[ho] at hN;simp at hN;omega
def Q8 (vs:List Vr)(e:Ex):Bool:=(e.op==2&&decide (plc vs e.name<0))||((e.op==3||e.op==24)&&(szA vs e.name==0))
def PP (vs:List Vr)(e:Ex):Bool:=(pre e).any (Q8 vs)
theorem U4 (vs:List Vr)(e:Ex):PP vs e=(Q8 vs e||e.args.any (PP vs)):=by
 unfold PP;rw[pre_eq,List.any_cons];congr 1
 have:∀xs:List Ex,(E8 xs).any (Q8 vs)=xs.any fun e=>(pre e).any (Q8 vs):=by
  intro xs
  induction xs with
  | nil=>rfl
  | cons x xs ih=>simp only[E8,List.any_append,List.any_cons,ih]
 exact this e.args
def NdOk (e:Ex):Prop:=∀x∈pre e,HY x=0
theorem NdOk.arg (h:NdOk e)(ha:a∈e.args):NdOk a:=fun x hx=>h x (by rw[pre_eq]; exact List.mem_cons_of_mem _ (X0 ha x hx))
theorem NdOk.self (h:NdOk e):HY e=0:=h e (by rw[pre_eq]; simp)
theorem NdOk.name {e:Ex}(h:NdOk e):e.name.size<=19:=oZ h.self
theorem NdOk.of (h:exE e=0):NdOk e:=dO h
theorem NdOk.len (h:NdOk e):e.args.length<=33:=by
 have h1:=node_ops h.self;unfold TS at h1;split at h1
 .simp at h1; omega
 .have:arity e.op<=3:=by
   unfold arity
   repeat' split
   all_goals omega
  have:((e.args.length:Nat):Int)=arity e.op:=BL h1;omega
abbrev isS (H:Hp)(b:Nat)(m:SM)(vs:List Vr):Prop:=H[b]?=some (qF 1 [[.sl m 4 (vs.map encV)]])
theorem isS.ld {H:Hp}{b:Nat}{m:SM}{vs:List Vr}(h:isS H b m vs):BO jA H 233 (.ptr b 0 0)=some (.agg [.sl m 4 (vs.map encV)]):=by
 rw[EH A1U AUK h rfl (jF 1)]; rfl
theorem isS.l {m:SM}(h:isS H b m vs):BO jA H 22 (.ptr b 0 0)=some (.sl m 4 (vs.map encV)):=by rw[BH YQ h rfl]; rfl
theorem bxS (h:Hp)(m:SM)(vs:List Vr):MP h (.agg [.sl m 4 (vs.map encV)])=some (.ptr h.length 0 0,h++[qF 1 [[.sl m 4 (vs.map encV)]]]):=rfl
section
variable {H:Hp} {b:Nat} {e:Ex}
theorem AKD (h:H[b]?=some (qF 4 [AY e])):BO jA H 3 (.ptr b 0 0)=some (.n e.op):=by rw[BH ag3 h (row:=AY e) rfl,JS]
theorem exN (h:H[b]?=some (qF 4 [AY e])):BO jA H 3 (.ptr b 0 1)=some (.n e.n):=by rw[BH ag3 h (row:=AY e) rfl,bS]
theorem ZY (h:H[b]?=some (qF 4 [AY e])):BO jA H 9 (.ptr b 0 2)=some (.str e.name):=by rw[BH ag9 h (row:=AY e) rfl,QT]
theorem TU (h:H[b]?=some (qF 4 [AY e])):BO jA H 23 (.ptr b 0 3)=some (.sl e.m 4 (e.args.map AY)):=by rw[BH L6 h (row:=AY e) rfl,XH]
end
section
variable (G:Nat->AV)
theorem AN2 (xs:List Ex)(m:SM)(fid:FuncId)(caps:List AV)(p:Ex->Bool)(h:Hp)(hn:xs.length<=1099511627776)(hf:∀x∈xs,PCall (En G) fid ([.agg (AY x)]++caps) h (.bool (p x))):
  PCall (En G) 301 [.sl m 4 (xs.map AY),.fn (.func fid) [] caps] h (.n (NR p xs)):=by
 refine acT Tryz.func301 4 ?_;refine Z ?_;refine BB (fun n F H=>∃k,n+k=xs.length∧(∀(j:Nat) (hj:j<k) (hl:j<xs.length),p xs[j]=false)∧F 0=.sl m 4 (xs.map AY)∧F 1=.fn (.func fid) [] caps∧F 7=.n (xs.length:Nat)∧F 8=.n (k:Nat)∧H=h) xs.length ⟨0,A8,fun j hj=>absurd hj U,AC,AC,AC,AC,rfl⟩ ?_;rintro n F H ⟨k,hk,hb,f0,f1,f7,f8,rfl⟩;refine AQ f7 f8 ?_;refine BG ?_ ?_<;>intro hc
 .have hk':k<xs.length:=BL hc
  simp -implicitDefEqProofs only[vQ,CJ,List.map_cons,List.map_nil,List.nil_append,List.cons_append,↓reduceIte,jC,enP,PK,f0,f1,f8,CG hk',CY OZ I8 EF hk'];refine(hf _ (jH hk')).uu ?_;refine BG ?_ ?_<;>intro hp
  .refine AO f8 ?_
   exact⟨by rw[QO p xs k hk' (fun j hj=>hb j hj U) hp],trivial⟩
  .refine AQ f8 (CW k) ?_
   refine⟨n-1,U,k+1,U,fun j hj hl=>?_,A7,A7,A7,rfl,trivial⟩;rcases Nat.lt_or_ge j k with h1|h1
   .exact hb j h1 hl
   .obtain rfl:j=k:=U
    exact hp
 .refine Z ?_
  have hk':¬k<xs.length:=BL hc;exact⟨by rw[PU p xs fun j hj=>hb j U hj],trivial⟩
theorem AD0 (xs:List Ex)(m:SM)(fid:FuncId)(caps:List AV)(p:Ex->Bool)(h:Hp)(hn:xs.length<=1099511627776)(hf:∀x∈xs,PCall (En G) fid ([.agg (AY x)]++caps) h (.bool (p x))):
  PCall (En G) 253 [.sl m 4 (xs.map AY),.fn (.func fid) [] caps] h (.bool (xs.any p)):=by
 refine acT Tryz.func253 4 ?_;refine Z ?_;refine(AN2 G xs m fid caps p h hn hf).use ?_;refine AO @QP ?_;exact G8
theorem AZ4 (vs:List Vr)(m:SM)(a:Ex)(c:Nat)(h:Hp)(hc:isS h c m vs)(r:Bool)(hf:∀H,PCall (En G) 175 [.agg [.sl m 4 (vs.map encV)],.agg (AY a)] H (.bool r)):PCall (En G) 254 ([.agg (AY a)]++[.ptr c 0 0]) h (.bool (!r)):=by
 refine ACalls.pure0 rfl ?_;refine acT Tryz.func254 3 ?_;have hc':isS (h++[qF 4 [AY a]]) c m vs:=AL hc;refine DI @bxE @hc'.ld @ldE ?_;refine(hf _).uu ?_;exact⟨A7,_,rfl⟩
theorem ANQ (vs:List Vr)(m:SM)(hl:vs.length<=1048576)(hv:∀v∈vs,FK v.name=true)(e:Ex):NdOk e->∀h:Hp,PCall (En G) 175 [.agg [.sl m 4 (vs.map encV)],.agg (AY e)] h (.bool (!PP vs e)):=by
 induction e using Ex.induct with|h e ih=>?_
 intro hn h;have hnm:=hn.name;have hal:=hn.len;refine ACalls.pure0 rfl ?_;refine acT Tryz.func175 4 ?_;have gs:isS (h++[qF 1 [[.sl m 4 (vs.map encV)]]]++[qF 4 [AY e]]) h.length m vs:=AL (AX _ _);have ge:=AX (h++[qF 1 [[.sl m 4 (vs.map encV)]]]) (qF 4 [AY e]);have hx:Sm.ext h (h++[qF 1 [[.sl m 4 (vs.map encV)]]]++[qF 4 [AY e]]):=((ext.rfl' h).app _).app _;refine AQ @bxS @bxE ?_
 generalize h++[qF 1 [[.sl m 4 (vs.map encV)]]]++[qF 4 [AY e]]=H1 at gs ge hx|-
 generalize (h++[qF 1 [[.sl m 4 (vs.map encV)]]]).length=eb at ge|-
 generalize h.length=sb at gs|-
 have last:Q8 vs e=false->PP vs e=e.args.any (PP vs):=fun q=>by rw[U4,q,Bool.false_or]
 have fin:∀x∈e.args,PCall (En G) 254 ([.agg (AY x)]++[.ptr sb 0 0]) H1 (.bool (PP vs x)):=fun x hx=>by
  have:=AZ4 G vs m x sb H1 gs (!PP vs x) (ih x hx (hn.arg hx))
  rwa [Bool.not_not] at this
 refine AO (AKD ge) ?_;cases b2:(e.op==2)
 case true =>
  have ho:e.op=2:=BL b2;refine EO @AHA b2 (isS.l gs) (ZY ge) ?_;refine(index_prog G vs m e.name H1 U).uu ?_;refine⟨?_,hx⟩
  have:PP vs e=decide (plc vs e.name<0):=by
   rw[U4,cF hn.self (.inr (.inl ho))];unfold Q8; rw[ho]; simp
  rw[this,<-decide_not];congr 1;rw[decide_eq_decide]; omega
 cases b24:(e.op==24)
 case true =>
  refine EO b2 b24 (isS.ld gs) (ZY ge) ?_;refine(size_prog G vs m hl hv e.name U H1).uu ?_;refine BG ?_ ?_<;>intro hc
  .refine Z ?_
   refine⟨?_,hx⟩;have hc:szA vs e.name=0:=BL hc;have:PP vs e=true:=by rw[U4]; unfold Q8; rw[b24,hc]; simp
   rw[this]; rfl
  .have hc:¬szA vs e.name=0:=BL hc
   have hu:Q8 vs e=false:=by unfold Q8; rw[b2,b24]; simp [hc]
   refine AO (TU ge) ?_;refine(AD0 G e.args e.m 254 [.ptr sb 0 0] (PP vs) H1 U fin).uu ?_;exact⟨by rw[last hu],hx⟩
 cases b3:(e.op==3)
 case true =>
  refine JL b2 b24 b3 (isS.ld gs) (ZY ge) ?_;refine(size_prog G vs m hl hv e.name U H1).uu ?_;refine BG ?_ ?_<;>intro hc
  .refine Z ?_
   refine⟨?_,hx⟩;have hc:szA vs e.name=0:=BL hc;have:PP vs e=true:=by rw[U4]; unfold Q8; rw[b3,hc]; simp
   rw[this]; rfl
  .have hc:¬szA vs e.name=0:=BL hc
   have hu:Q8 vs e=false:=by unfold Q8; rw[b2,b3]; simp [hc]
   refine AO (TU ge) ?_;refine(AD0 G e.args e.m 254 [.ptr sb 0 0] (PP vs) H1 U fin).uu ?_;exact⟨by rw[last hu],hx⟩
 have hu:Q8 vs e=false:=by unfold Q8; rw[b2,b24,b3]; rfl
 refine EO b2 b24 b3 (TU ge) ?_;refine(AD0 G e.args e.m 254 [.ptr sb 0 0] (PP vs) H1 U fin).uu ?_;exact⟨by rw[last hu],hx⟩
end
def aR (l:List (Nat×Int)):Nat:=l.foldl (fun s x=>min (s+x.1) 401) 1
def TF (l:List (Nat×Int)):Nat×Int:=l.getLast?.getD (0,-1)
def xtF (vs:List Vr)(op n:Int)(name:ByteArray)(l:List (Nat×Int)):Nat×Int :=
 if op=1 then (1,n) else if op=24 then (2*szA vs name-1,-1) else if op≠3 then (aR l,-1) else if(szA vs name:Int)<=(TF l).2 then (1,0) else if 0<=(TF l).2 then (1,-1) else (min (szA vs name*((TF l).1+4)+1) 401,-1)
mutual
def H6 (vs:List Vr):Ex->Nat×Int
 | .mk op n name _ args=>xtF vs op n name (AAZ vs args)
def AAZ (vs:List Vr):List Ex->List (Nat×Int)
 | []=>[]
 | e::es=>H6 vs e::AAZ vs es
end
theorem pV (vs:List Vr):∀l:List Ex,AAZ vs l=l.map (H6 vs)
 | []=>by simp [AAZ]
 | e::es=>by simp [AAZ,pV vs es]
theorem TG (vs:List Vr)(e:Ex):H6 vs e=xtF vs e.op e.n e.name (e.args.map (H6 vs)):=by
 cases e; simp only[H6,pV]; rfl
theorem oL (l:List (Nat×Int))(x:Nat×Int):aR (l++[x])=min (aR l+x.1) 401:=by unfold aR; rw[List.foldl_append]; rfl
theorem ADU (l:List (Nat×Int))(x:Nat×Int):TF (l++[x])=x:=by unfold TF; simp
theorem AFU (l:List (Nat×Int)):aR l<=401:=by
 rcases List.eq_nil_or_concat l with rfl|⟨l',x,rfl⟩
 .decide
 .rw[List.concat_eq_append,oL]; omega
theorem AHE (vs:List Vr)(e:Ex):(H6 vs e).1<=401:=by
 have:=sE vs e.name;have:=AFU (e.args.map (H6 vs));rw[TG];unfold xtF;split
 .show(1:Nat)<=401; omega
 split
 .show 2*szA vs e.name-1<=401; omega
 split
 .assumption
 split
 .show(1:Nat)<=401; omega
 split
 .show(1:Nat)<=401; omega
 .show min _ 401<=401; omega
theorem ASZ (h:0<=(H6 vs e).2):(H6 vs e).1=1:=by
 have hm:∀x:Nat,¬(0:Int)<=(x,(-1:Int)).2:=fun x=>by show ¬(0:Int)<=-1; decide
 rw[TG] at h|-
 unfold xtF at h|-
 by_cases c1:e.op=1
 .rw[if_pos c1]
 rw[if_neg c1] at h|-
 by_cases c2:e.op=24
 .rw[if_pos c2] at h; exact absurd h (hm _)
 rw[if_neg c2] at h|-
 by_cases c3:e.op≠3
 .rw[if_pos c3] at h; exact absurd h (hm _)
 rw[if_neg c3] at h|-
 by_cases c4:(szA vs e.name:Int)<=(TF (e.args.map (H6 vs))).2
 .rw[if_pos c4]
 rw[if_neg c4] at h|-
 by_cases c5:0<=(TF (e.args.map (H6 vs))).2
 .rw[if_pos c5]
 rw[if_neg c5] at h;exact absurd h (hm _)
def exR (x:Nat×Int):List AV:=[.n (x.1:Nat),.n x.2]
theorem AVF (h:Hp):F9 jA h 235=some (.ptr h.length 0 0,h++[qF 2 [[.n 0,.n 0]]]):=FC (row:=[.n 0,.n 0]) AZ
theorem mG (a b:Int):IR jA 235 [(0,.n a),(1,.n b)]=some (.agg [.n a,.n b]):=AZ
theorem eQ (hb:H[b]?=some (qF 2 [[.n c,.n d]]))(x y:Int):DX jA H 235 (.ptr b 0 0) (.agg [.n x,.n y])=some (H.set b (qF 2 [[.n x,.n y]])):=by
 rw[IY (cs:=[.n x,.n y]) rfl AUJ hb (jF 2)]; rfl
theorem pD (hb:H[b]?=some (qF 2 [[.n c,.n d]])):BO jA H 235 (.ptr b 0 0)=some (.agg [.n c,.n d]):=by
 rw[EH A1T AUJ hb rfl (jF 2)]; rfl
theorem AGR (hb:H[b]?=some (qF 2 [[.n c,.n d]])):BO jA H 3 (.ptr b 0 0)=some (.n c):=by rw[BH ag3 hb rfl]; rfl
theorem AR9 (hb:H[b]?=some (qF 2 [[.n c,.n d]])):BO jA H 3 (.ptr b 0 1)=some (.n d):=by rw[BH ag3 hb rfl]; rfl
theorem QB (h:PP vs e=false)(ha:a∈e.args):PP vs a=false:=by
 rw[U4,wB] at h;have:=qM.1 h.2 a ha;simpa using this
theorem U3 (h:PP vs e=false)(ho:e.op=3∨e.op=24):1<=szA vs e.name:=by
 rw[U4,wB] at h;have h1:=h.1;unfold Q8 at h1;rcases ho with q|q<;>rw[q] at h1<;>simp at h1<;>omega
section
variable (G:Nat->AV)
theorem AKC (vs:List Vr)(m:SM)(hl:vs.length<=1048576)(hv:∀v∈vs,FK v.name=true)(e:Ex):NdOk e->PP vs e=false->∀h:Hp,PCall (En G) 176 [.agg [.sl m 4 (vs.map encV)],.agg (AY e)] h (.agg (exR (H6 vs e))):=by
 induction e using Ex.induct with|h e ih=>?_
 intro hn hu h;have hnm:=hn.name;have hal:=hn.len;have hsz:=sE vs e.name;refine ACalls.pure (R:=fun v H=>v=.agg (exR (H6 vs e))∧Sm.ext h H) 2 ?_ (fun v H ⟨a,b⟩=>⟨b,by rw[a]; rfl⟩);refine acL Tryz.func176 [.cell 4 235] ?_;have gs:isS (h++[qF 1 [[.sl m 4 (vs.map encV)]]]++[qF 4 [AY e]]++[qF 2 [[.n 0,.n 0]]]) h.length m vs:=AL (AL (AX _ _));have ge:=AL (x:=qF 2 [[.n 0,.n 0]]) (AX (h++[qF 1 [[.sl m 4 (vs.map encV)]]]) (qF 4 [AY e]));have gr:=AX (h++[qF 1 [[.sl m 4 (vs.map encV)]]]++[qF 4 [AY e]]) (qF 2 [[.n 0,.n 0]]);have hx:Sm.ext h (h++[qF 1 [[.sl m 4 (vs.map encV)]]]++[qF 4 [AY e]]++[qF 2 [[.n 0,.n 0]]]):=(((ext.rfl' h).app _).app _).app _;have e1:(h++[qF 1 [[.sl m 4 (vs.map encV)]]]).length=h.length+1:=A8;have e2:(h++[qF 1 [[.sl m 4 (vs.map encV)]]]++[qF 4 [AY e]]).length=h.length+2:=A8;refine DI @bxS @bxE AVF ?_
 rw[e1] at ge|-
 rw[e2] at gr|-
 generalize h++[qF 1 [[.sl m 4 (vs.map encV)]]]++[qF 4 [AY e]]++[qF 2 [[.n 0,.n 0]]]=H1 at gs ge gr hx|-
 clear e1 e2;refine AO (AKD ge) ?_;cases b1:(e.op==1)
 case true =>
  have ho:e.op=1:=BL b1;refine EO b1 (exN ge) mG (eQ gr) ?_;rw[JA (b:=h.length+2) AC (pD (CQ gr))];exact⟨by rw[TG]; unfold xtF; rw[if_pos ho]; rfl,hx.set U _⟩
 have o1:¬e.op=1:=BL b1;cases b24:(e.op==24)
 case true =>
  have ho:e.op=24:=BL b24;have h1:=U3 hu (.inr ho);have w1:IntKind.i64.wrap (2*((szA vs e.name:Nat):Int))=2*((szA vs e.name:Nat):Int):=wrap_i64 U U;have w2:IntKind.i64.wrap (2*((szA vs e.name:Nat):Int)-1)=((2*szA vs e.name-1:Nat):Int):=by rw[wrap_i64 U U]; omega
  refine EO b1 b24 (isS.ld gs) (ZY ge) ?_;refine(size_prog G vs m hl hv e.name U H1).use ?_;refine EO w1 w2 mG (eQ gr) ?_;rw[JA (b:=h.length+2) AC (pD (CQ gr))];exact⟨by rw[TG]; unfold xtF; rw[if_neg o1,if_pos ho]; rfl,hx.set U _⟩
 have o24:¬e.op=24:=BL b24;have gs:=AL (x:=qF 2 [[.n 0,.n (-1)]]) gs;have ge:=AL (x:=qF 2 [[.n 0,.n (-1)]]) ge;have lr:=AB gr;have gr:=AL (x:=qF 2 [[.n 0,.n (-1)]]) gr;have gl:=AX H1 (qF 2 [[.n 0,.n (-1)]]);have hx:=hx.app [qF 2 [[.n 0,.n (-1)]]];have sl235:DX jA (H1++[qF 2 [[.n 0,.n 0]]]) 235 (.ptr H1.length 0 0) (.agg [.n 0,.n (-1)])=some (H1++[qF 2 [[.n 0,.n (-1)]]]):=by rw[eQ (AX _ _),KH]
 refine JL b1 b24 mG AVF sl235 ?_
 generalize H1++[qF 2 [[.n 0,.n (-1)]]]=H2 at gs ge gr gl hx|-
 generalize H1.length=lb at gl lr|-
 refine AO (TU ge) ?_;have hlen:(e.args.map (H6 vs)).length=e.args.length:=List.length_map _;refine D9 1 (fun F H=>F 2=.ptr h.length 0 0∧F 3=.ptr (h.length+1) 0 0∧F 4=.ptr (h.length+2) 0 0∧F 5=.n (aR (e.args.map (H6 vs)):Nat)∧F 6=.ptr lb 0 0∧isS H h.length m vs∧H[h.length+1]?=some (qF 4 [AY e])∧H[h.length+2]?=some (qF 2 [[.n 0,.n 0]])∧H[lb]?=some (qF 2 [exR (TF (e.args.map (H6 vs)))])∧Sm.ext h H) (fun _ _=>False) ?_ ?_ (fun _ _ q=>q.elim)
 .refine BB (fun n F H=>∃j,n+j=e.args.length∧F 2=.ptr h.length 0 0∧F 3=.ptr (h.length+1) 0 0∧F 4=.ptr (h.length+2) 0 0∧F 5=.n (aR ((e.args.map (H6 vs)).take j):Nat)∧F 6=.ptr lb 0 0∧F 28=.sl e.m 4 (e.args.map AY)∧F 29=.n (e.args.length:Nat)∧F 30=.n (j:Nat)∧isS H h.length m vs∧H[h.length+1]?=some (qF 4 [AY e])∧H[h.length+2]?=some (qF 2 [[.n 0,.n 0]])∧H[lb]?=some (qF 2 [exR (TF ((e.args.map (H6 vs)).take j))])∧Sm.ext h H) e.args.length
   ⟨0,A8,AC,AC,AC,AC,AC,AC,AC,AC,gs,ge,gr,gl,hx⟩ ?_
  clear gs ge gr gl hx;rintro n F H ⟨j,hj,f2,f3,f4,f5,f6,f28,f29,f30,gs,ge,gr,gl,hx⟩;refine AQ f29 f30 ?_;refine DU ?_ ?_<;>intro hj'
  .have hmem:e.args[j]∈e.args:=jH hj'
   have gs:=AL (x:=qF 4 [AY e.args[j]]) gs;have ge:=AL (x:=qF 4 [AY e.args[j]]) ge;have gr:=AL (x:=qF 4 [AY e.args[j]]) gr;have gl:=AL (x:=qF 4 [AY e.args[j]]) gl;have hx:=hx.app [qF 4 [AY e.args[j]]];have ga:=AX H (qF 4 [AY e.args[j]]);simp -implicitDefEqProofs only[vQ,CJ,↓reduceIte,jC,enP,PK,Option.getD_none,f28,f30,CG hj',CY OZ I8 EF hj',al79,st79]
   generalize H++[qF 4 [AY e.args[j]]]=H3 at gs ge gr gl hx ga|-
   generalize H.length=ab at ga|-
   refine EO f2 f6 (isS.ld gs) (IW ga) ?_;refine(ih e.args[j] hmem (hn.arg hmem) (QB hu hmem) H3).use ?_;have hj2:j<(e.args.map (H6 vs)).length:=U;have hget:(e.args.map (H6 vs))[j]=H6 vs e.args[j]:=A8;have ss:DX jA H3 235 (.ptr lb 0 0) (.agg (exR (H6 vs e.args[j])))=some (H3.set lb (qF 2 [exR (H6 vs e.args[j])])):=eQ gl _ _;have gs':isS (H3.set lb (qF 2 [exR (H6 vs e.args[j])])) h.length m vs:=by unfold isS; rw[zL U]; exact gs
   have ge':(H3.set lb (qF 2 [exR (H6 vs e.args[j])]))[h.length+1]?=some (qF 4 [AY e]):=by rw[zL U]; exact ge
   have gr':(H3.set lb (qF 2 [exR (H6 vs e.args[j])]))[h.length+2]?=some (qF 2 [[.n 0,.n 0]]):=by rw[zL U]; exact gr
   have gl':(H3.set lb (qF 2 [exR (H6 vs e.args[j])]))[lb]?=some (qF 2 [exR (H6 vs e.args[j])]):=CQ gl;have hx':=hx.set (b:=lb) U (qF 2 [exR (H6 vs e.args[j])]);refine DI @AG9 f6 ss ?_
   generalize H3.set lb (qF 2 [exR (H6 vs e.args[j])])=H4 at gs' ge' gr' gl' hx'|-
   have s1:=AFU ((e.args.map (H6 vs)).take j);have s2:=AHE vs e.args[j];have w1:IntKind.i64.wrap (((aR ((e.args.map (H6 vs)).take j):Nat):Int)+(((H6 vs e.args[j]).1:Nat):Int))=((aR ((e.args.map (H6 vs)).take j)+(H6 vs e.args[j]).1:Nat):Int):=by rw[wrap_i64 U U]; omega
   have mn:min (((aR ((e.args.map (H6 vs)).take j)+(H6 vs e.args[j]).1:Nat):Int)) 401=((aR ((e.args.map (H6 vs)).take (j+1)):Nat):Int):=by
    rw[jW hj2,oL,hget]; omega
   refine NZ f5 f6 f30 (AGR gl') w1 mn (CW j) ?_;refine⟨n-1,U,j+1,U,A7,A7,A7,A7,A7,A7,A7,A7,gs',ge',gr',?_,hx'⟩;rw[jW hj2,ADU,hget]; exact gl'
  .rw[List.take_of_length_le U] at f5 gl
   refine Z ?_;exact⟨A7,A7,A7,A7,A7,gs,ge,gr,gl,hx⟩
 clear gs ge gr gl hx;rintro F H ⟨f2,f3,f4,f5,f6,gs,ge,gr,gl,hx⟩;have hext:=TG vs e;unfold xtF at hext;rw[if_neg o1,if_neg o24] at hext;refine EO f2 f3 (isS.ld gs) (ZY ge) ?_;refine(size_prog G vs m hl hv e.name U H).use ?_;refine AQ f3 (AKD ge) ?_;cases b3:(e.op != 3)
 case true =>
  have ho:e.op≠3:=BL b3;refine JL b3 f4 f5 mG (eQ gr) ?_;rw[JA (b:=h.length+2) (DW f4) (pD (CQ gr))];exact⟨by rw[hext,if_pos ho]; rfl,hx.set U _⟩
 have o3:e.op=3:=BL b3;rw[if_neg (fun q=>q o3)] at hext;have hz:=U3 hu (.inl o3);obtain⟨a,hargs⟩:=UK hn.self o3;have hle:(TF (e.args.map (H6 vs))).1<=401:=by rw[hargs]; exact AHE vs a
 generalize TF (e.args.map (H6 vs))=x at gl hext hle;have g0:=AGR gl;have g1:=AR9 gl;refine EO @AG8 b3 f6 g1 ?_;cases c1:decide (x.2≥((szA vs e.name:Nat):Int))
 case true =>
  have q:=of_decide_eq_true c1;refine EO c1 f4 mG (eQ gr) ?_;rw[JA (b:=h.length+2) (DW f4) (pD (CQ gr))];exact⟨by rw[hext,if_pos q]; rfl,hx.set U _⟩
 have q:=of_decide_eq_false c1;rw[if_neg q] at hext;refine EO @AG8 c1 f6 g1 ?_;cases c2:decide (x.2≥(0:Int))
 case true =>
  have q:=of_decide_eq_true c2;refine EO c2 f4 mG (eQ gr) ?_;rw[JA (b:=h.length+2) (DW f4) (pD (CQ gr))];exact⟨by rw[hext,if_pos q]; rfl,hx.set U _⟩
 have q2:=of_decide_eq_false c2;rw[if_neg q2] at hext;have w1:IntKind.i64.wrap (((x.1:Nat):Int)+4)=((x.1+4:Nat):Int):=by rw[wrap_i64 U U]; omega
 have hm8:szA vs e.name*(x.1+4)<=8*405:=Nat.mul_le_mul hsz U;have w2:IntKind.i64.wrap (((szA vs e.name:Nat):Int)*((x.1+4:Nat):Int))=((szA vs e.name*(x.1+4):Nat):Int):=by rw[<-Int.natCast_mul,wrap_i64 U U]
 have w3:IntKind.i64.wrap (((szA vs e.name*(x.1+4):Nat):Int)+1)=((szA vs e.name*(x.1+4)+1:Nat):Int):=by rw[wrap_i64 U U]; omega
 have mn:min (((szA vs e.name*(x.1+4)+1:Nat):Int)) 401=((min (szA vs e.name*(x.1+4)+1) 401:Nat):Int):=U;refine aE @AG9 c2 f4 f6 g0 w1 w2 w3 mn mG (eQ gr) ?_;rw[JA (b:=h.length+2) (DW f4) (pD (CQ gr))];exact⟨by rw[hext]; rfl,hx.set U _⟩
end
end Go.Proofs.YtiihpnicbekebaaGreatDoor.Bd.Cl
namespace Go.Proofs.YtiihpnicbekebaaGreatDoor.Ho
open Sm Bins Cov Go.RowKit
variable {m:Mo} {x:Hl} {ins:Ex->List Rng->Ex}
def WH (m:Mo)(x:Hl):List (Nat×Nat):=((AAF m x).map Int.toNat).zip (x.bins.map Int.toNat)
theorem AGI (l:List Int)(h:∀z∈l,0<=z):(l.map Int.toNat).map (fun n:Nat=>(n:Int))=l:=by
 rw[wF]
 conv=>rhs; rw[<-List.map_id l]
 exact List.map_congr_left fun z hz=>by have:=h z hz; show((z.toNat:Nat):Int)=z; omega
theorem AMN (hv:Q4 m x=true):Prt m x (WH m x):=by
 have mk:∀(ps bs:List Int),AAF m x=ps->x.bins=bs->ps.length=bs.length->(∀z∈ps,0<=z)->(∀z∈bs,0<=z)->1<=ps.length->ps.length<=4 ->
   (∀k (h1:k<ps.length) (h2:k<bs.length),∃h:ps[k].toNat<m.pts.length,bs[k].toNat<m.pts[ps[k].toNat].bins.length)->Prt m x (WH m x):=by
  intro ps bs hp hb hl p0 b0 l1 l4 hok
  have e1:(WH m x).map Prod.fst=ps.map Int.toNat:=by
   unfold WH;rw[hp,hb,List.map_fst_zip (by simp [hl])]
  have e2:(WH m x).map Prod.snd=bs.map Int.toNat:=by
   unfold WH;rw[hp,hb,List.map_snd_zip (by simp [hl])]
  have hlen:(WH m x).length=ps.length:=by have:=congrArg wH e1; simpa using this
  refine⟨?_,?_,fun q hq=>?_,U,U⟩
  .have:=congrArg (List.map fun n:Nat=>(n:Int)) e1
   rw[AGI ps p0,wF] at this;rw[hp]; exact this.symm
  .have:=congrArg (List.map fun n:Nat=>(n:Int)) e2
   rw[AGI bs b0,wF] at this;rw[hb]; exact this.symm
  .obtain⟨k,hk,rfl⟩:=qR hq
   have h1:k<ps.length:=U;have h2:k<bs.length:=U
   have g1:(WH m x)[k].1=ps[k].toNat:=by
    have:((WH m x).map Prod.fst)[k]?=(ps.map Int.toNat)[k]? := by rw[e1]
    rw[jX,jX,jI hk,jI h1] at this;simpa using this
   have g2:(WH m x)[k].2=bs[k].toNat:=by
    have:((WH m x).map Prod.snd)[k]?=(bs.map Int.toNat)[k]? := by rw[e2]
    rw[jX,jX,jI hk,jI h2] at this;simpa using this
   obtain⟨q1,q2⟩:=hok k h1 h2;rw[<-g1] at q1;refine⟨q1,?_⟩;rw[g2];have:m.pts[(WH m x)[k].1]=m.pts[ps[k].toNat]:=by congr 1
   rw[this]; exact q2
 cases hc:x.cross
 .obtain⟨i,hi,k,hk,hz,hb,hkd,hg⟩:=oC hv hc
  refine mk [(i:Int)] [(k:Int)] ?_ hb rfl (fun z hz=>?_) (fun z hz=>?_) A8 A8 fun k' h1 h2=>?_
  .unfold AAF; rw[if_neg (by rw[hc]; decide),hz]
  .rw[qP.1 hz]; omega
  .rw[qP.1 hz]; omega
  .have:k'=0:=by simp at h1; omega
   subst this;exact⟨hi,hk⟩
 .obtain⟨i,hi,hz,hin,hh,hg⟩:=oD hv hc
  have hcg:=hg.crs _ (jH hi);have hl:=QN hin;have hl2:m.crs[i].pts.length=x.bins.length:=by rw[<-hl]; unfold szs; rw[jL]
  have h2:=hcg.two; have h4:=hcg.four;refine mk m.crs[i].pts x.bins ?_ rfl hl2 (fun z hz=>(hcg.here z hz).1) (fun z hz=>?_) U U fun k h1 h2=>?_
  .unfold AAF; rw[if_pos hc,hz,hQ hi]
  .obtain⟨k,hk,rfl⟩:=qR hz
   exact(X9 hin k hk U).1
  .obtain⟨q1,q2⟩:=X9 hin k h2 h1
   refine⟨hcg.here.toNat h1,?_⟩;have:=hcg.here.bins h1;rw[this]; omega
theorem AXS (hm:MoOk m)(h0:FT m=0){p:Pt}(hp:p∈m.pts){b:Bin}(hb:b∈p.bins):BdB p b:=by
 have v:=ACM h0 p hp;have vb:=v.bins b hb;have h1:=v.n64;have h2:=vb.few;have h3:=v.badLen;exact⟨vb.ne,U,fun s hs=>by have:=(vb.each s hs).2.1; omega,U,U,(hm.pts p hp).ex⟩
theorem ABP {P:Ex->Prop}{ins:Ex->List Rng->Ex}{m:Mo}(h0:FT m=0){q:Nat×Nat}(h:q.1<m.pts.length)(h2:q.2<m.pts[q.1].bins.length)
  (h3:∀l:List Rng,l.length<=4096->P (ins m.pts[q.1].ex l)∧P (notE (ins m.pts[q.1].ex l))):∀r∈cdQ ins m q,r.length<=2∧∀e∈r,P e:=by
 rw[AEP ins h h2];have v:=ACM h0 _ (jH h);have vb:=v.bins _ (jH h2);exact AKQ (fun s hs=>(h3 s.l (by have:=(vb.each s hs).2.1; omega)).1) fun _=>(h3 _ v.badLen).2
theorem AHQ (h0:FT m=0){q:Nat×Nat}(h:q.1<m.pts.length)(h2:q.2<m.pts[q.1].bins.length):1<=(cdQ ins m q).length∧(cdQ ins m q).length<=8:=by
 rw[AEP ins h h2,APA];have vb:=(ACM h0 _ (jH h)).bins _ (jH h2);exact⟨List.length_pos_iff.2 vb.ne,vb.few⟩
theorem AE0 {P:Ex->Prop}{cs:List (List (List Ex))}(h:∀c∈cs,∀r∈c,∀e∈r,P e):∀r∈OY cs,∀e∈r,P e:=by
 intro r hr e he;unfold OY at hr;obtain⟨t,_,rfl⟩:=qE.1 hr;unfold rowA at he;obtain⟨c,hc,he⟩:=List.mem_flatMap.1 he;unfold sK at he;split at he
 .cases hx:c[t-(VD cs-c.length)]? with
  | none=>rw[hx] at he; cases he
  | some r0=>rw[hx] at he; exact h c hc r0 (List.mem_of_getElem? hx) e he
 .cases he
theorem AAR {B:Nat}:∀ {R:List (List Ex)},(∀r∈R,r.length<=B)->R.flatten.length<=B*R.length
 | [],_=>A8
 | r::R,h=>by
   have h1:=h r A8;have h2:=AAR (R:=R) fun r hr=>h r (by simp [hr])
   rw[List.flatten_cons,List.length_append,List.length_cons,Nat.mul_add]; omega
theorem rJ {cs:List (List (List Ex))}(h4:cs.length<=4)(h8:∀c∈cs,c.length<=8)(h2:∀c∈cs,∀r∈c,r.length<=2):(OY cs).length<=8∧(∀r∈OY cs,r.length<=8)∧(OY cs).flatten.length<=64:=by
 have hn:VD cs<=8:=ZO cs 0 _ (Nat.zero_le _) h8;have a:(OY cs).length<=8:=by unfold OY; simpa using hn
 have b:∀r∈OY cs,r.length<=8:=fun r hr=>by
  unfold OY at hr;obtain⟨t,_,rfl⟩:=qE.1 hr;have:=iW (n:=VD cs) (t:=t) h2;omega
 refine⟨a,b,?_⟩;have:=AAR b;omega
def cnL (ins:Ex->List Rng->Ex)(m:Mo)(x:Hl):List (List Ex):=A0J ins m (WH m x)
def cnE (ins:Ex->List Rng->Ex)(m:Mo)(x:Hl):Int:=if Q4 m x=true then (if(cnL ins m x).flatten.all (fun e=>exE e==0)=true then 0 else 2) else 1
def cnV (ins:Ex->List Rng->Ex)(m:Mo)(x:Hl):AV:=.tup [if cnE ins m x=0 then .sl .any 1 ((cnL ins m x).map SI) else .sl .nil 0 [],.n (cnE ins m x)]
theorem AJC (G:Nat->AV)(m:Mo)(x:Hl)(hv:Q4 m x=true)(h:Hp):∃s,PCall (En G) 94 [.agg (CZ m),.agg (EZ x)] h (.sl s 1 ((AAF m x).map Bins.qencI)):=by
 cases hc:x.cross
 .obtain⟨i,hi,k,hk,hz,hb,hkd,hg⟩:=oC hv hc
  exact⟨_,by have:=yB G m x hc h; unfold AAF; rw[if_neg (by rw[hc]; decide)]; exact this⟩
 .obtain⟨i,hi,hz,hin,hh,hg⟩:=oD hv hc
  exact⟨_,by have:=yC G m x hc i hi hz h; unfold AAF; rw[if_pos hc,hz,hQ hi]; exact this⟩
section
variable (G:Nat->AV)
theorem AEQ (m:Mo)(hm:MoOk m)(h0:FT m=0)(x:Hl)(L:List (Nat×Nat))(hL:Prt m x L)(j:Nat)(hj:j<L.length)(b2 b3:Nat)(h:Hp)(gm:h[b2]?=some (qF 2 [CZ m]))(gh:h[b3]?=some (qF 3 [EZ x])):
  PCall (En G) 92 [.n (j:Nat),.n (L[j].1:Nat),.ptr b2 0 0,.ptr b3 0 0] h (.sl .any 1 ((cdQ FD m L[j]).map gG)):=by
 obtain⟨h1,h2⟩:=hL.ok _ (jH hj);have B:=AXS hm h0 (jH h1) (jH h2);have hb:j<x.bins.length:=by rw[hL.bins,jL]; exact hj
 have hbj:x.bins[j]=((L[j].2:Nat):Int):=by
  have:x.bins[j]?=(L.map fun q=>((q.2:Nat):Int))[j]? := by rw[<-hL.bins]
  rw[jI hb,jX,jI hj] at this;simpa using this
 rw[AEP FD h1 h2];refine acT Tryz.func92 6 ?_;refine Z ?_;refine DJ AZ ?_;simp -implicitDefEqProofs only[vQ,LQ,LP,KF,GK,↓reduceIte,jC,Nat.reduceAdd,Nat.add_zero,Nat.zero_add,enP,QM,KQ,KJ,dL,ZP gm,CG h1,CY gK ZC IC h1,AR8 gh,CG hb,BP ag3 hb,Cov.encI0,hbj];refine⟨_,lW G m.pts[L[j].1] L[j].2 h2 B h,?_⟩
 try refine Z ?_
 exact⟨A7,A7⟩
end
theorem A0X (h:Hp)(xs:List (List AV)):C9 jA false h 159 1 [(0,.sl .any 1 xs)]=some (.sl .full 1 [[.sl .any 1 xs]],h):=AZ
theorem AZ0:∀l:List (List (List Ex)),ML (l.map VU)=true:=fun l=>by
 unfold ML;rw[List.all_eq_true];intro row hr;obtain⟨c,_,rfl⟩:=qE.1 hr; rfl
theorem ATD (ins:Ex->List Rng->Ex)(m:Mo)(x:Hl)(n:Nat)(H:Hp):FI n H 3 (cnV ins m x)=cnV ins m x:=by
 unfold cnV;split<;>rfl
theorem ATE (h:Q4 m x=false):cnV ins m x=.tup [.sl .nil 0 [],.n 1]:=by
 have:cnE ins m x=1:=by unfold cnE; rw[if_neg (by rw[h]; decide)]
 unfold cnV;rw[this]; rfl
theorem ATC (h:Q4 m x=true)(hc:(cnL ins m x).flatten.all (fun e=>exE e==0)=false):cnV ins m x=.tup [.sl .nil 0 [],.n 2]:=by
 have:cnE ins m x=2:=by unfold cnE; rw[if_pos h,if_neg (by rw[hc]; decide)]
 unfold cnV;rw[this]; rfl
theorem AXF (h:Q4 m x=true)(hc:(cnL ins m x).flatten.all (fun e=>exE e==0)=true):cnV ins m x=.tup [.sl .any 1 ((cnL ins m x).map SI),.n 0]:=by
 have:cnE ins m x=0:=by unfold cnE; rw[if_pos h,if_pos hc]
 unfold cnV;rw[this]; rfl
theorem rY (h:Q4 m x=true):FT m=0:=by
 unfold Q4 at h;rw[Bool.and_eq_true] at h;simpa using h.1
section
variable (G:Nat->AV)
theorem mY (hG:GOk G)(m:Mo)(hm:MoOk m)(x:Hl)(hn:x.bins.length<=1048576)(h:Hp):PCall (En G) 43 [.agg (CZ m),.agg (EZ x)] h (cnV FD m x):=by
 refine ACalls.pure (R:=fun v H=>v=cnV FD m x∧Sm.ext h H) 3 ?_ (fun v H ⟨a,b⟩=>⟨b,by rw[a,ATD]⟩);refine J7 (H:=hint [] [(36,[35])]) (enM G) Tryz.func43 rfl (by kernel_rfl) (by kernel_rfl) (jB (by kernel_rfl)) ?_;show awp _ _ _ _ _ (NU _ [.tmp 4,.tmp 5] _);have t:=Hb.mk' h m x;refine AQ @bxM @bxH ?_
 generalize h++[qF 2 [CZ m]]++[qF 3 [EZ x]]=H at t|-
 generalize (h++[qF 2 [CZ m]]).length=hb at t|-
 refine AQ (ldM t.gm) (ldH t.gh) ?_;refine(valid_prog G hG m hm x hn H).use ?_;cases hv:Q4 m x
 .refine Z ?_
  exact⟨by rw[ATE hv],t.hx⟩
 have h0:=rY hv;have hL:=AMN hv;obtain⟨s,hp⟩:=AJC G m x hv H;rw[hL.pts] at hp;refine AQ (ldM t.gm) (ldH t.gh) ?_;refine hp.use ?_;have hcl:cnL FD m x=OY ((WH m x).map (cdQ FD m)):=rfl;have hln:=hL.n4;have hl1:=hL.n1
 have hev:∀q∈WH m x,(∀r∈cdQ FD m q,r.length<=2∧∀e∈r,WN e)∧1<=(cdQ FD m q).length∧(cdQ FD m q).length<=8:=fun q hq=>by
  obtain⟨a,b⟩:=hL.ok q hq;have hw:=(hm.pts _ (jH a)).ex;exact⟨ABP h0 a b fun l hl=>⟨(AH0 hw hl).1,(AT6 (AH0 hw hl)).1⟩,AHQ h0 a b⟩
 generalize WH m x=L at hL hcl hln hl1 hev;refine Z ?_;refine D9 0 (fun F H'=>∃v,F 7=v∧Sm.ext H H'∧outG 1 VU H (L.map (cdQ FD m)) v H') (fun _ _=>False) ?_ ?_ (fun _ _ q=>q.elim)
 .refine BB (fun n F H'=>∃j v,n+j=L.length∧F 6=.fn (.func 92) [] [.ptr h.length 0 0,.ptr hb 0 0]∧F 7=v∧F 20=.sl s 1 ((L.map fun q=>((q.1:Nat):Int)).map Bins.qencI)∧F 21=.n (L.length:Nat)∧F 22=.n (j:Nat)∧Sm.ext H H'∧outG 1 VU H ((L.take j).map (cdQ FD m)) v H') L.length
   ⟨0,.sl .nil 0 [],A8,AC,AC,AC,AC,AC,ext.rfl' _,by rw[List.take_zero]; exact outG.nil _ _ _ _⟩ ?_
  rintro n F H' ⟨j,v,hj,f6,f7,f20,f21,f22,hx,ho⟩;refine AQ f21 f22 ?_;refine DU ?_ ?_<;>intro hj'
  .have hj2:j<(L.map fun q=>((q.1:Nat):Int)).length:=by rw[jL]; exact hj'
   have hg:(L.map fun q=>((q.1:Nat):Int))[j]=((L[j].1:Nat):Int):=A8;have hlen:((L.take j).map (cdQ FD m)).length<8388608:=by rw[jL,List.length_take]; omega
   obtain⟨v',H2,ha,ho2,_,he2,_,_⟩:=ho.append (P:=jA) AYC AUL AXZ A0S U hlen hx (cdQ FD m L[j]);have ha':EP jA true H' 159 159 v (.sl .full 1 [[.sl .any 1 ((cdQ FD m L[j]).map gG)]])=some (v',H2):=ha
   have hst:(L.take (j+1)).map (cdQ FD m)=(L.take j).map (cdQ FD m)++[cdQ FD m L[j]]:=by
    rw[List.take_succ_eq_append_getElem hj',qL]; rfl
   simp -implicitDefEqProofs only[vQ,jY,zB,CJ,List.nil_append,List.cons_append,↓reduceIte,jC,enP,KJ,qI,SC,f6,f7,f20,f22,CG hj2,BP ag3 hj2,Cov.encI0,hg];refine(AEQ G m hm h0 x L hL j hj' h.length hb H' (EJ hx t.gm) (EJ hx t.gh)).use ?_;refine JL f7 f22 @A0X ha' (CW j) ?_;exact⟨n-1,U,j+1,v',U,A7,A7,A7,A7,A7,he2,by rw[hst]; exact ho2⟩
  .rw[jJ U] at ho
   refine Z ?_;exact⟨v,A7,hx,ho⟩
 rintro F H' ⟨v,f7,hx,ho⟩;have hcl4:(L.map (cdQ FD m)).length<=4:=by rw[jL]; exact hln
 have hcl1:L.map (cdQ FD m)≠[]:=by intro q; have:=congrArg wH q; rw[jL,List.length_nil] at this; omega
 have hc8:∀c∈L.map (cdQ FD m),c.length<=8:=fun c hc=>by
  obtain⟨q,hq,rfl⟩:=qE.1 hc;exact(hev q hq).2.2
 have hc2:∀c∈L.map (cdQ FD m),∀r∈c,r.length<=2:=fun c hc r hr=>by
  obtain⟨q,hq,rfl⟩:=qE.1 hc;exact((hev q hq).1 r hr).1
 have hcw:∀c∈L.map (cdQ FD m),∀r∈c,∀e∈r,WN e:=fun c hc r hr=>by
  obtain⟨q,hq,rfl⟩:=qE.1 hc;exact((hev q hq).1 r hr).2
 generalize L.map (cdQ FD m)=cs at ho hcl hcl4 hcl1 hc8 hc2 hcw;clear hev hp
 obtain⟨o,rfl,ho1,hob⟩:∃o,v=.own o 0 cs.length∧H.length<=o∧H'[o]?=some (qF 1 (cs.map VU)):=by
  rcases ho with⟨e1,_⟩|⟨_,o,h1,h2,h3⟩
  .exact absurd e1 hcl1
  .exact⟨o,h2,h1,h3⟩
 have hz:=AAJ (i:=35) (off:=0) (len:=cs.length) hob A8 (by rw[zM,jJ A8]; exact AZ0 cs);rw[zM,jJ A8] at hz;have hx2:=hx.set ho1 .dead;refine DI f7 @AAK hz ?_
 generalize H'.set o .dead=H2 at hx2|-
 refine(uS G cs .any U (fun c hc=>by have:=hc8 c hc; omega) hc2 H2).use ?_;obtain⟨ha1,ha2,ha3⟩:=rJ hcl4 hc8 hc2
 have haw:∀e∈(OY cs).flatten,WN e:=fun e he=>by
  obtain⟨r,hr,he⟩:=List.mem_flatten.1 he;exact AE0 hcw r hr e he
 rw[<-hcl] at ha1 ha2 ha3 haw|-
 clear hcl;refine Z ?_;refine(concat_prog G (cnL FD m x) .any U U H2).uu ?_
 generalize hE:(cnL FD m x).flatten=E at ha3 haw|-
 have hok:∀b,E.all (fun e=>exE e==0)=b->(cnL FD m x).flatten.all (fun e=>exE e==0)=b:=fun b hb=>by rw[hE]; exact hb
 have hhx:=t.hx.trans hx2;refine D9 2 (fun F H'=>F 10=.sl .any 1 ((cnL FD m x).map SI)∧Sm.ext h H'∧E.all (fun e=>exE e==0)=true) (fun F H'=>F 4=.sl .nil 0 []∧F 5=.n 2∧Sm.ext h H'∧E.all (fun e=>exE e==0)=false) ?_ ?_ ?_
 .refine BB (fun n F H'=>∃i,n+i=E.length∧F 10=.sl .any 1 ((cnL FD m x).map SI)∧F 38=.sl (Cov.nm E) 4 (E.map AY)∧F 39=.n (E.length:Nat)∧F 40=.n (i:Nat)∧Sm.ext h H'∧E.all (fun e=>exE e==0)=(E.drop i).all (fun e=>exE e==0)) E.length
   ⟨0,A8,AC,AC,AC,AC,hhx,rfl⟩ ?_
  rintro n F H3 ⟨i,hi,f10,f38,f39,f40,hx3,hq⟩;refine AQ f39 f40 ?_;refine DU ?_ ?_<;>intro hi'
  .rw[List.drop_eq_getElem_cons hi',List.all_cons] at hq
   simp -implicitDefEqProofs only[vQ,jY,zB,CJ,↓reduceIte,jC,enP,PK,Option.getD_none,qI,SC,f38,f40,CG hi',CY OZ I8 EF hi',QW,nD _ _ [.n 0,.n 0,.str ⟨#[]⟩,.sl .nil 0 []] rfl,ldE];refine(Y3 G hG E[i] _ (haw _ (jH hi'))).use ?_;simp -implicitDefEqProofs only[vQ,jY,zB,CJ,↓reduceIte,enP,qI,SC,bne];cases hz:(exE E[i]==0)
   .rw[hz,Bool.false_and] at hq
    refine Z ?_;exact⟨A7,A7,hx3.app _,hq⟩
   .rw[hz,Bool.true_and] at hq
    refine AQ f40 (CW i) ?_;exact⟨n-1,U,i+1,U,A7,A7,A7,A7,hx3.app _,hq⟩
  .rw[List.drop_eq_nil_of_le U] at hq
   refine Z ?_;exact⟨A7,hx3,hq⟩
 .rintro F H3 ⟨f10,hx3,hq⟩
  refine AO f10 ?_;exact⟨by rw[AXF hv (hok _ hq)],hx3⟩
 .rintro F H3 ⟨f4,f5,hx3,hq⟩
  refine AQ f4 f5 ?_;exact⟨by rw[ATC hv (hok _ hq)],hx3⟩
end
theorem A0H (e:Ex):(cpE e).op=e.op:=by rw[dU]; rfl
theorem ATA (e:Ex):(cpE e).name=e.name:=by rw[dU]; rfl
theorem ATB (e:Ex):(cpE e).args=e.args.map cpE:=by rw[dU]; rfl
theorem xY:∀l:List Ex,(∀e∈l,pre (cpE e)=(pre e).map cpE)->E8 (l.map cpE)=(E8 l).map cpE
 | [],_=>rfl
 | e::l,h=>by
   show pre (cpE e)++E8 (l.map cpE)=(pre e++E8 l).map cpE;rw[qL,h e A8,xY l fun x hx=>h x (by simp [hx])]
theorem AMP (e:Ex):pre (cpE e)=(pre e).map cpE:=by
 induction e using Ex.induct with|h e ih=>?_
 rw[pre_eq,pre_eq e,ATB,xY _ ih,jK]
end Go.Proofs.YtiihpnicbekebaaGreatDoor.Ho
namespace Go.Proofs.YtiihpnicbekebaaGreatDoor.Bd.Cl
open Sm Bins Cov Xe Wd Bl Ho Go.RowKit
variable {vs:List Vr} {e:Ex} {H:Hp} {b:Nat} {r:List AV}
def vaE (a:ByteArray)(k:Nat):Ex:=I9 (elN a k)
def ZE (a:ByteArray):Nat->Ex
 | 0=>vaE a 0
 | k+1=>.mk 7 0 ⟨#[]⟩ .full [ZE a k,vaE a (k+1)]
def chK (c:Ex->Ex)(a:ByteArray)(i:Ex)(n:Nat):Nat->Ex
 | 0=>cE 0
 | j+1=>.mk 22 0 ⟨#[]⟩ .full [.mk 15 0 ⟨#[]⟩ .full [c i,cE ((n-1-j:Nat):Int)],vaE a (n-1-j),chK c a i n j]
def dW (c:Ex->Ex)(a:ByteArray)(i:Ex)(n:Nat):Ex:=if i.op=1 then (if i.n<(n:Int) then vaE a i.n.toNat else cE 0) else chK c a i n n
structure Bw where
 c:Ex->Ex
 md:List Ex->SM
def scF (s:Bw)(vs:List Vr)(op n:Int)(name:ByteArray)(l:List Ex):Ex :=
 if op=24 then ZE name (szA vs name-1) else if op=3 then dW s.c name (l.head?.getD (cE 0)) (szA vs name) else .mk op n name (s.md l) l
mutual
def IA (s:Bw)(vs:List Vr):Ex->Ex
 | .mk op n name _ args=>scF s vs op n name (xB s vs args)
def xB (s:Bw)(vs:List Vr):List Ex->List Ex
 | []=>[]
 | e::es=>IA s vs e::xB s vs es
end
theorem oN (s:Bw)(vs:List Vr):∀l:List Ex,xB s vs l=l.map (IA s vs)
 | []=>by simp [xB]
 | e::es=>by simp [xB,oN s vs es]
theorem aT (s:Bw)(vs:List Vr)(e:Ex):IA s vs e=scF s vs e.op e.n e.name (e.args.map (IA s vs)):=by
 cases e; simp only[IA,oN]; rfl
def sdP:Bw:=⟨cpE,fun _=>.any⟩
def Bw.Len (s:Bw):Prop:=∀e,(pre (s.c e)).length=(pre e).length∧(∀N,NmB N e->NmB N (s.c e))
theorem AFZ:sdP.Len:=fun e=>⟨by show(pre (cpE e)).length=_; rw[AMP,jL],fun N h=>AH4 e h⟩
theorem VC (op n:Int)(name:ByteArray)(m:SM)(l:List Ex):(pre (.mk op n name m l)).length=1+(E8 l).length:=by rw[pre_eq,List.length_cons]; show _+1=1+(E8 l).length; rw[Nat.add_comm]; rfl
theorem kC:E8 []=[]:=rfl
theorem O3 (e:Ex)(l:List Ex):E8 (e::l)=pre e++E8 l:=rfl
theorem AFO (a:ByteArray)(k:Nat):(pre (vaE a k)).length=1:=rfl
theorem AXK (n:Int):(pre (cE n)).length=1:=rfl
theorem vR (a:ByteArray):∀k,(pre (ZE a k)).length=2*k+1
 | 0=>rfl
 | k+1=>by
   have ih:=vR a k;show(pre (.mk 7 0 ⟨#[]⟩ .full [ZE a k,vaE a (k+1)])).length=_;rw[VC,O3,O3,kC,jS,jS,ih,AFO]; simp; omega
theorem AHP {s:Bw}(hs:s.Len)(a:ByteArray)(i:Ex)(n:Nat):∀j,(pre (chK s.c a i n j)).length=j*((pre i).length+4)+1
 | 0=>by rw[Nat.zero_mul]; rfl
 | j+1=>by
   have ih:=AHP hs a i n j;show(pre (.mk 22 0 ⟨#[]⟩ .full [.mk 15 0 ⟨#[]⟩ .full [s.c i,cE ((n-1-j:Nat):Int)],vaE a (n-1-j),chK s.c a i n j])).length=_;rw[VC,O3,O3,O3,kC,jS,jS,jS,ih,AFO,VC,O3,O3,kC,jS,jS,AXK,(hs i).1,Nat.add_mul];simp; omega
theorem yS (x:Nat):¬(0:Int)<=((x,-1):Nat×Int).2:=by show ¬(0:Int)<=-1; decide
theorem AG3:∀(l:List (Nat×Int)) (s:Nat),s<=401->s<=l.foldl (fun s x=>min (s+x.1) 401) s
 | [],s,_=>jF s
 | x::l,s,h=>by
   have:=AG3 l (min (s+x.1) 401) U;rw[qO]; omega
theorem AAO:∀(l:List (Nat×Int)) (s:Nat),l.foldl (fun s x=>min (s+x.1) 401) s<=400->l.foldl (fun s x=>min (s+x.1) 401) s=(l.map Prod.fst).foldl (·+·) s∧∀x∈l,x.1<=400
 | [],s,_=>⟨rfl,fun x hx=>by cases hx⟩
 | x::l,s,h=>by
   rw[qO] at h|-
   have h1:=AG3 l (min (s+x.1) 401) U;have e:min (s+x.1) 401=s+x.1:=U;obtain⟨i1,i2⟩:=AAO l (min (s+x.1) 401) h;refine⟨by rw[i1,e]; rfl,fun y hy=>?_⟩;rcases zK.1 hy with rfl|hy
   .omega
   .exact i2 y hy
theorem vO {l:List (Nat×Int)}(h:aR l<=400):aR l=(l.map Prod.fst).foldl (·+·) 1∧∀x∈l,x.1<=400:=AAO l 1 h
theorem oQ:∀(l:List Ex) (z:Nat),z+(E8 l).length=(l.map fun e=>(pre e).length).foldl (·+·) z
 | [],z=>rfl
 | e::l,z=>by
   rw[jK,qO,<-oQ l,O3,jS]; omega
theorem AO3 (a:ByteArray)(k:Nat):(elN a k).size=a.size+3:=by
 rw[sD,PE,jS,sD]; rfl
theorem iF {a:ByteArray}{k N:Nat}(h:a.size+3<=N):NmB N (vaE a k):=NmB.mk (by rw[AO3]; exact h) fun x hx=>by cases hx
theorem ACD {a:ByteArray}{N:Nat}(h:a.size+3<=N):∀k,NmB N (ZE a k)
 | 0=>iF h
 | k+1=>NmB.mk (qG _) fun x hx=>by
   simp only[zK,List.not_mem_nil,or_false] at hx;rcases hx with rfl|rfl
   .exact ACD h k
   .exact iF h
theorem AH5 {s:Bw}(hs:s.Len){a:ByteArray}{i:Ex}{n N:Nat}(h:a.size+3<=N)(hi:NmB N i):∀j,NmB N (chK s.c a i n j)
 | 0=>aC N 0
 | j+1=>NmB.mk (qG _) fun x hx=>by
   simp only[zK,List.not_mem_nil,or_false] at hx;rcases hx with rfl|rfl|rfl
   .refine NmB.mk (qG _) fun x hx=>?_
    simp only[zK,List.not_mem_nil,or_false] at hx;rcases hx with rfl|rfl
    .exact(hs i).2 N hi
    .exact aC N _
   .exact iF h
   .exact AH5 hs h hi j
theorem AQG {s:Bw}(hs:s.Len){a:ByteArray}{i:Ex}{n N:Nat}(h:a.size+3<=N)(hi:NmB N i):NmB N (dW s.c a i n):=by
 unfold dW;split
 .split
  .exact iF h
  .exact aC N 0
 .exact AH5 hs h hi n
theorem AV6 {s:Bw}(hs:s.Len)(vs:List Vr)(e:Ex):NdOk e->NmB 22 (IA s vs e):=by
 induction e using Ex.induct with|h e ih=>?_
 intro hn;have hnm:=hn.name;rw[aT];unfold scF;split
 .exact ACD U _
 split
 .refine AQG hs U ?_
  cases hq:e.args with
  | nil=>exact aC _ _
  | cons a tl=>exact ih a (by rw[hq]; simp) (hn.arg (by rw[hq]; simp))
 .refine NmB.mk U fun x hx=>?_
  obtain⟨a,ha,rfl⟩:=qE.1 hx;exact ih a ha (hn.arg ha)
theorem uC {a:Ex}(hn:NdOk e)(hu:PP vs e=false)(h:(H6 vs e).1<=400)(ha:a∈e.args):(H6 vs a).1<=400:=by
 rw[TG] at h;unfold xtF at h;split at h
 .rename_i ho; rw[cF hn.self (.inl ho)] at ha; cases ha
 split at h
 .rename_i ho; rw[cF hn.self (.inr (.inr ho))] at ha; cases ha
 split at h
 .exact(vO h).2 _ (qE.2 ⟨a,ha,rfl⟩)
 .rename_i o1 o24 o3
  have o3:e.op=3:=BL o3;obtain⟨b,hb⟩:=UK hn.self o3;have hz:=U3 hu (.inl o3);rw[hb] at ha h;rw[List.mem_singleton.1 ha];have hlast:TF ([b].map (H6 vs))=H6 vs b:=rfl;rw[hlast] at h;have one:0<=(H6 vs b).2->(H6 vs b).1<=400:=fun q=>by rw[ASZ q]; decide
  split at h
  .exact one U
  split at h
  .exact one (by assumption)
  .have h:min (szA vs e.name*((H6 vs b).1+4)+1) 401<=400:=h
   have h1:1*((H6 vs b).1+4)<=szA vs e.name*((H6 vs b).1+4):=Nat.mul_le_mul hz (jF _);omega
theorem cS {s:Bw}:NdOk e->PP vs e=false->((IA s vs e).op=1↔0<=(H6 vs e).2)∧(0<=(H6 vs e).2->(IA s vs e).n=(H6 vs e).2):=by
 induction e using Ex.induct with|h e ih=>?_
 intro hn hu;rw[TG,aT];unfold xtF scF;by_cases o1:e.op=1
 .have:=(AWE hn.self o1).1
  rw[if_pos o1,if_neg U,if_neg U];exact⟨⟨fun _=>this,fun _=>o1⟩,fun _=>rfl⟩
 rw[if_neg o1];by_cases o24:e.op=24
 .rw[if_pos o24,if_pos o24]
  have:∀k,(ZE e.name k).op≠1:=fun k=>by
   cases k with
   | zero=>show(2:Int)≠1; decide
   | succ k=>show(7:Int)≠1; decide
  exact⟨⟨fun q=>absurd q (this _),fun q=>absurd q (yS _)⟩,fun q=>absurd q (yS _)⟩
 rw[if_neg o24,if_neg o24];by_cases o3:e.op=3
 .have o3n:¬e.op≠3:=fun q=>q o3
  rw[if_pos o3,if_neg o3n];obtain⟨b,hb⟩:=UK hn.self o3;have hz:=U3 hu (.inl o3);have hm:b∈e.args:=by rw[hb]; simp
  obtain⟨i1,i2⟩:=ih b hm (hn.arg hm) (QB hu hm);rw[hb];have hlast:TF ([b].map (H6 vs))=H6 vs b:=rfl;have hhd:(([b].map (IA s vs)).head?.getD (cE 0))=IA s vs b:=rfl;rw[hlast,hhd];unfold dW;generalize IA s vs b=x at i1 i2;generalize H6 vs b=y at i1 i2;by_cases q:x.op=1
  .have h0:=i1.1 q
   have hn2:=i2 h0;rw[if_pos q,hn2];by_cases q2:(szA vs e.name:Int)<=y.2
   .rw[if_pos q2,if_neg U]
    exact⟨⟨fun _=>Int.le_refl 0,fun _=>rfl⟩,fun _=>rfl⟩
   .rw[if_neg q2,if_pos h0,if_pos U]
    exact⟨⟨fun q=>absurd q (by show(2:Int)≠1; decide),fun q=>absurd q (yS _)⟩,fun q=>absurd q (yS _)⟩
  .have h0:¬0<=y.2:=fun h=>q (i1.2 h)
   rw[if_neg q,if_neg U,if_neg h0]
   have:∀k,0<k->(chK s.c e.name x (szA vs e.name) k).op≠1:=fun k hk=>by
    cases k with
    | zero=>omega
    | succ k=>show(22:Int)≠1; decide
   exact⟨⟨fun q=>absurd q (this _ U),fun q=>absurd q (yS _)⟩,fun q=>absurd q (yS _)⟩
 .rw[if_pos o3,if_neg o3]
  exact⟨⟨fun q=>absurd q o1,fun q=>absurd q (yS _)⟩,fun q=>absurd q (yS _)⟩
theorem AQ1 {s:Bw}(hs:s.Len)(vs:List Vr)(e:Ex):NdOk e->PP vs e=false->(H6 vs e).1<=400->(pre (IA s vs e)).length=(H6 vs e).1:=by
 induction e using Ex.induct with|h e ih=>?_
 intro hn hu hx;have ih':∀a∈e.args,(pre (IA s vs a)).length=(H6 vs a).1:=fun a ha=>ih a ha (hn.arg ha) (QB hu ha) (uC hn hu hx ha)
 rw[aT]
 rw[TG] at hx|-
 unfold xtF at hx|-
 unfold scF;by_cases o1:e.op=1
 .rw[if_pos o1,if_neg U,if_neg U,cF hn.self (.inl o1)]
  rfl
 rw[if_neg o1] at hx|-
 by_cases o24:e.op=24
 .have hz:=U3 hu (.inr o24)
  rw[if_pos o24,if_pos o24,vR];show 2*(szA vs e.name-1)+1=2*szA vs e.name-1;omega
 rw[if_neg o24] at hx|-
 rw[if_neg o24];by_cases o3:e.op=3
 .have o3n:¬e.op≠3:=fun q=>q o3
  rw[if_neg o3n] at hx|-
  rw[if_pos o3];obtain⟨b,hb⟩:=UK hn.self o3;have hz:=U3 hu (.inl o3);have hm:b∈e.args:=by rw[hb]; simp
  obtain⟨i1,i2⟩:=cS (s:=s) (hn.arg hm) (QB hu hm);have hl:=ih' b hm
  rw[hb] at hx|-
  have hlast:TF ([b].map (H6 vs))=H6 vs b:=rfl;have hhd:(([b].map (IA s vs)).head?.getD (cE 0))=IA s vs b:=rfl
  rw[hlast] at hx|-
  rw[hhd];unfold dW;generalize IA s vs b=x at i1 i2 hl;generalize H6 vs b=y at i1 i2 hl hx;by_cases q:x.op=1
  .have h0:=i1.1 q
   have hn2:=i2 h0;rw[if_pos q,hn2];by_cases q2:(szA vs e.name:Int)<=y.2
   .rw[if_pos q2,if_neg U]; rfl
   .rw[if_neg q2,if_pos h0,if_pos U]; rfl
  .have h0:¬0<=y.2:=fun h=>q (i1.2 h)
   have h1:¬(szA vs e.name:Int)<=y.2:=U
   rw[if_neg h1,if_neg h0] at hx|-
   rw[if_neg q,AHP hs,hl];have hx:min (szA vs e.name*(y.1+4)+1) 401<=400:=hx;show szA vs e.name*(y.1+4)+1=min (szA vs e.name*(y.1+4)+1) 401;omega
 .rw[if_pos o3] at hx|-
  rw[if_neg o3];have h1:=(vO hx).1;show(pre (.mk e.op e.n e.name (s.md (e.args.map (IA s vs))) (e.args.map (IA s vs)))).length=aR (e.args.map (H6 vs));rw[h1,VC,oQ,wF,wF];congr 1;exact List.map_congr_left fun a ha=>ih' a ha
theorem AMD {s:Bw}(hs:s.Len)(hn:NdOk e)(hu:PP vs e=false)(hx:(H6 vs e).1<=400):wt (IA s vs e)<=10000:=by
 have h1:=AUH 22 (IA s vs e) (AV6 hs vs e hn);rw[AQ1 hs vs e hn hu hx] at h1;have:(H6 vs e).1*23<=400*23:=Nat.mul_le_mul_right _ hx;omega
def scC (vs:List Vr)(e:Ex):Int:=if PP vs e=true then 7 else if 400<(H6 vs e).1 then 2 else exE (IA sdP vs e)
def scV (s:Bw)(vs:List Vr)(e:Ex):AV:=.tup [.agg (if scC vs e=0 then AY (IA s vs e) else EQ),.n (scC vs e)]
theorem AVR (n:ByteArray):CvR (.agg (OE n)) (.agg (AY (I9 n))):=by
 rw[EY];exact CvR.agg (CvRL.cons (CvR.refl _) (CvRL.cons (CvR.refl _) (CvRL.cons (CvR.refl _) (CvRL.cons (CvR.sl (Cv.nil 0 4)) CvRL.nil))))
theorem A05 (op:Int)(m:SM)(xs:List (List AV)):IR jA 79 [(0,.n op),(3,.sl m 4 xs)]=some (.agg [.n op,.n 0,.str ⟨#[]⟩,.sl m 4 xs]):=AZ
theorem AOY (op:Int)(m:SM)(l:List Ex):AY (.mk op 0 ⟨#[]⟩ m l)=[.n op,.n 0,.str ⟨#[]⟩,.sl m 4 (l.map AY)]:=EY _
theorem bs3 (h:Hp)(a b c:Ex):C9 jA false h 23 3 [(0,.agg (AY a)),(1,.agg (AY b)),(2,.agg (AY c))]=some (.sl .full 4 [AY a,AY b,AY c],h):=by
 rw[EY a,EY b,EY c];exact(AZ:C9 jA false h 23 3 [(0,.agg [.n a.op,.n a.n,.str a.name,.sl a.m 4 (a.args.map AY)]),(1,.agg [.n b.op,.n b.n,.str b.name,.sl b.m 4 (b.args.map AY)]),(2,.agg [.n c.op,.n c.n,.str c.name,.sl c.m 4 (c.args.map AY)])]=_)
theorem z4:([AV.int .i64 0,.n 0,.str ⟨#[]⟩,.sl .nil 0 []]:List AV)=EQ:=rfl
section
variable (G:Nat->AV)
theorem QA (a:ByteArray)(k:Nat)(hk:k<9)(ha:a.size<=1048576)(h:Hp):PCall (En G) 302 [.str a,.n (k:Nat)] h (.agg (AY (vaE a k))):=by
 refine PCall.res ?_ (AVR (elN a k));refine UC 3 (fun n H=>rfl) ?_;refine acL Tryz.func302 [.cell 4 79] ?_;have g2:=AX h (qF 4 [EQ]);have hx:Sm.ext h (h++[qF 4 [EQ]]):=(ext.rfl' h).app _;refine AQ QW z4 ?_
 generalize h++[qF 4 [EQ]]=H1 at g2 hx|-
 refine(lN G a k hk H1 ha).use ?_;have s2:=VQ (cs:=OE (elN a k)) g2 rfl rfl rfl;refine AQ @ATV s2 ?_;rw[JA (b:=h.length) AC (KY (CQ g2) rfl)];exact⟨rfl,hx.set (jF _) _⟩
theorem WP (n:Int)(h:Hp):PCall (En G) 304 [.n n] h (.agg (AY (cE n))):=by
 refine PCall.res ?_ (lX n);refine UC 3 (fun n H=>rfl) ?_;refine acL Tryz.func304 [.cell 2 79] ?_;have g2:=AX h (qF 4 [EQ]);have s2:=VQ (cs:=lY 1 n) g2 rfl rfl rfl;refine EO QW @AHS z4 s2 ?_;rw[JA (b:=h.length) AC (KY (CQ g2) rfl)];exact⟨rfl,((ext.rfl' h).app _).set (jF _) _⟩
theorem dA (op:Int)(m:SM)(l:List Ex)(h:Hp):PCall (En G) 303 [.n op,.sl m 4 (l.map AY)] h (.agg (AY (.mk op 0 ⟨#[]⟩ m l))):=by
 refine UC 3 (fun n H=>QS n H 0 _) ?_;refine acL Tryz.func303 [.cell 4 79] ?_;have g2:=AX h (qF 4 [EQ]);have s2:=QH (e:=.mk op 0 ⟨#[]⟩ m l) g2 rfl;rw[AOY] at s2;refine EO QW @A05 z4 s2 ?_;rw[<-AOY];rw[JA (b:=h.length) AC (O6 (CQ g2))];exact⟨rfl,((ext.rfl' h).app _).set (jF _) _⟩
theorem ABK:∀(w:Nat) (e:Ex) (h:Hp),wt e<=w->wt e<=1048576->PCall (En G) 305 [.agg (AY e)] h (.agg (AY (cpE e))):=by
 intro w
 induction w with
 | zero=>intro e h h1 _; have:=MH e; omega
 | succ w ih =>
   intro e h h1 h2;have hlen:=UW e.args;have hwt:=MH e;refine PCall.res (r:=.agg (cpW e)) ?_ (AO9 e);refine ACalls.pure (R:=fun v H=>Sm.ext h H∧FI h.length H 4 v=.agg (cpW e)) 4 ?_ (fun v H ⟨a,b⟩=>⟨a,b⟩);refine acL Tryz.func305 [.cell 2 79] ?_;have ge:=AL (x:=qF 4 [[.n 0,.n 0,.str ⟨#[]⟩,.sl .nil 0 []]]) (AX h (qF 4 [AY e]));have g2:=AX (h++[qF 4 [AY e]]) (qF 4 [[.n 0,.n 0,.str ⟨#[]⟩,.sl .nil 0 []]]);have hx:Sm.ext h (h++[qF 4 [AY e]]++[qF 4 [[.n 0,.n 0,.str ⟨#[]⟩,.sl .nil 0 []]]]):=((ext.rfl' h).app _).app _;have hb2:h.length<(h++[qF 4 [AY e]]).length:=A8;refine AQ @bxE QW ?_
   generalize h++[qF 4 [AY e]]++[qF 4 [[.n 0,.n 0,.str ⟨#[]⟩,.sl .nil 0 []]]]=H0 at ge g2 hx|-
   generalize (h++[qF 4 [AY e]]).length=b2 at g2 hb2|-
   have l2:=AB g2;refine AO (Rk.ldE' ge) ?_
   refine BB (fun n F H=>∃k u,n+k=e.args.length∧F 1=.ptr h.length 0 0∧F 2=.ptr b2 0 0∧F 3=u∧F 7=.sl e.m 4 (e.args.map AY)∧F 8=.n (e.args.length:Nat)∧F 9=.n (k:Nat)∧Sm.ext H0 H∧outG 4 AY H0 ((e.args.take k).map cpE) u H) e.args.length
    ⟨0,.sl .nil 0 [],A8,AC,AC,AC,AC,AC,AC,ext.rfl' _,outG.nil _ _ _ _⟩ ?_
   rintro n F H ⟨k,u,hk,f1,f2,f3,f7,f8,f9,he,ho⟩;refine AQ f8 f9 ?_;refine DU ?_ ?_<;>intro hk'
   .have hlt:=Rk.wt_arg hk'
    have he1:=he.app [qF 4 [AY e.args[k]]];have ho1:=ho.app [qF 4 [AY e.args[k]]];have gT:=ldE H e.args[k];simp -implicitDefEqProofs only[vQ,CJ,List.map_nil,List.append_nil,↓reduceIte,jC,enP,PK,jQ,f7,f9,CG hk',CY OZ I8 EF hk',QW,nD _ _ [.n 0,.n 0,.str ⟨#[]⟩,.sl .nil 0 []] rfl,gT]
    generalize H++[qF 4 [AY e.args[k]]]=H1 at he1 ho1|-
    refine(ih e.args[k] H1 U U).use ?_;have hbs:=rB H1 (cpE e.args[k]);obtain⟨v',H2,ha,ho2,_,he2,_,_⟩:=ho1.append U5 I8 cN bZ U MS he1 (cpE e.args[k]);have e3:(e.args.take k).map cpE++[cpE e.args[k]]=(e.args.take (k+1)).map cpE:=by rw[jW hk',List.map_append]; rfl
    rw[e3] at ho2;refine JL f3 hbs ha f9 (CW k) ?_;exact⟨n-1,U,k+1,v',U,A7,A7,A7,A7,A7,A7,he2,ho2⟩
   .rw[jJ U] at ho
    have ge1:=EJ he ge;have g21:=EJ he g2;have hle:=he.le;have hlf:=ho.leaf;have h0l:h.length<H0.length:=U
    have hst:DX jA H 23 (.ptr h.length 0 3) u=some (H.set h.length (qF 4 [[.n e.op,.n e.n,.str e.name,u]])):=by
     rw[EY] at ge1;rcases ho with⟨_,rfl⟩|⟨_,o,_,rfl,_⟩
     .rw[IY (cs:=[.sl .nil 0 []]) rfl (AZ:szO jA 23=some 1) ge1 A8]; rfl
     .rw[IY (cs:=[.own o 0 _]) rfl (AZ:szO jA 23=some 1) ge1 A8]; rfl
    have g1':(H.set h.length (qF 4 [[.n e.op,.n e.n,.str e.name,u]]))[h.length]?=some (qF 4 [[.n e.op,.n e.n,.str e.name,u]]):=CQ ge1;have g2':(H.set h.length (qF 4 [[.n e.op,.n e.n,.str e.name,u]]))[b2]?=_:=DC g21 U;have ho3:outG 4 AY H0 (e.args.map cpE) u (H.set h.length (qF 4 [[.n e.op,.n e.n,.str e.name,u]])):=ho.setB h0l _;have hx3:Sm.ext h (H.set h.length (qF 4 [[.n e.op,.n e.n,.str e.name,u]])):=(hx.trans he).set (jF _) _;refine EO f1 f2 f3 hst ?_
    generalize H.set h.length (qF 4 [[.n e.op,.n e.n,.str e.name,u]])=H3 at g1' g2' ho3 hx3|-
    have hlf4:([.n e.op,.n e.n,.str e.name,u]:List AV).all AV.leaf=true:=by simp [hlf]; exact⟨rfl,rfl,rfl⟩
    refine EO f1 f2 (KY g1' rfl) (VQ g2' rfl rfl hlf4) ?_;rw[JA (b:=b2) (DW f2) (KY (CQ g2') rfl)];refine⟨hx3.set U _,?_⟩;have ho4:=ho3.setB (b:=b2) l2 (qF 4 [[.n e.op,.n e.n,.str e.name,u]]);have hz:=NG frzEx ho4 h.length 1 (by have:=hx.le; omega);show AV.agg [.n e.op,.n e.n,.str e.name,FI h.length _ 3 u]=.agg (cpW e);rw[hz]; rfl
theorem AL4 (vs:List Vr)(m:SM)(hl:vs.length<=1048576)(hv:∀v∈vs,FK v.name=true)(a:ByteArray)(ha:a.size<=1048576)(hz:1<=szA vs a)(h:Hp):PCall (En G) 255 [.agg [.sl m 4 (vs.map encV)],.str a] h (.agg (AY (ZE a (szA vs a-1)))):=by
 have hsz:=sE vs a;refine ACalls.pure (R:=fun v H=>v=.agg (AY (ZE a (szA vs a-1)))∧Sm.ext h H) 3 ?_ (fun v H ⟨a,b⟩=>⟨b,by rw[a]; exact QS _ _ 0 _⟩);refine acL Tryz.func255 [.cell 4 79] ?_;have gs:isS (h++[qF 1 [[.sl m 4 (vs.map encV)]]]++[qF 4 [EQ]]) h.length m vs:=AL (AX _ _);have gr:=AX (h++[qF 1 [[.sl m 4 (vs.map encV)]]]) (qF 4 [EQ]);have hx:Sm.ext h (h++[qF 1 [[.sl m 4 (vs.map encV)]]]++[qF 4 [EQ]]):=((ext.rfl' h).app _).app _;have e1:(h++[qF 1 [[.sl m 4 (vs.map encV)]]]).length=h.length+1:=A8;refine DI @bxS QW z4 ?_
 rw[e1] at gr|-
 generalize h++[qF 1 [[.sl m 4 (vs.map encV)]]]++[qF 4 [EQ]]=H1 at gs gr hx|-
 refine(QA G a 0 U ha H1).use ?_;have gs:=AL (x:=qF 4 [AY (vaE a 0)]) gs;have lr:=AB gr;have gr:=AL (x:=qF 4 [AY (vaE a 0)]) gr;have go:=AX H1 (qF 4 [AY (vaE a 0)]);have hx:=hx.app [qF 4 [AY (vaE a 0)]];refine AQ al79 st79 ?_
 generalize H1++[qF 4 [AY (vaE a 0)]]=H2 at gs gr go hx|-
 generalize H1.length=ob at go lr|-
 refine D9 0 (fun F H=>F 4=.ptr (h.length+1) 0 0∧F 5=.ptr ob 0 0∧H[h.length+1]?=some (qF 4 [EQ])∧H[ob]?=some (qF 4 [AY (ZE a (szA vs a-1))])∧Sm.ext h H) (fun _ _=>False) ?_ ?_ (fun _ _ q=>q.elim)
 .refine BB (fun n F H=>∃k,n+(k+1)=szA vs a∧F 1=.str a∧F 2=.ptr h.length 0 0∧F 4=.ptr (h.length+1) 0 0∧F 5=.ptr ob 0 0∧F 6=.n ((k+1:Nat):Int)∧isS H h.length m vs∧H[h.length+1]?=some (qF 4 [EQ])∧H[ob]?=some (qF 4 [AY (ZE a k)])∧Sm.ext h H) (szA vs a-1)
   ⟨0,U,EX,EX,EX,EX,EX,gs,gr,go,hx⟩ ?_
  clear gs gr go hx;rintro n F H ⟨k,hk,f1,f2,f4,f5,f6,gs,gr,go,hx⟩;refine EO f1 f2 f6 (isS.ld gs) ?_;refine(size_prog G vs m hl hv a ha H).use ?_;refine AO f6 ?_;refine DU ?_ ?_<;>intro hc
  .have s2:=QH (e:=ZE a (k+1)) go (EF _)
   refine Z ?_;refine DJ AZ ?_;refine EO f1 f5 f6 (O6 go) ?_;refine⟨_,QA G a (k+1) U ha H,?_⟩;refine AO @dZ ?_;refine⟨_,dA G 7 .full [ZE a k,vaE a (k+1)] H,?_⟩;change DX jA H 79 (.ptr ob 0 0) (.agg (AY (.mk 7 0 ⟨#[]⟩ .full [ZE a k,vaE a (k+1)])))=_ at s2;refine EO f5 s2 f6 (CW (k+1)) ?_;exact⟨n-1,U,k+1,U,A7,A7,A7,A7,A7,by unfold isS; rw[zL U]; exact gs,by rw[zL U]; exact gr,CQ go,hx.set U _⟩
  .have e:szA vs a-1=k:=U
   refine Z ?_;exact⟨A7,A7,gr,by rw[e]; exact go,hx⟩
 rintro F H ⟨f4,f5,gr,go,hx⟩;simp -implicitDefEqProofs only[vQ,Y5,CJ,↓reduceIte,jC,enP,jQ,f4,f5,O6 go,QH gr rfl];rw[JA (b:=h.length+1) (TN f4) (O6 (CQ gr))];exact⟨rfl,hx.set U _⟩
end
theorem AYJ {op n:Int}{s:ByteArray}{m:SM}{l:List (List AV)}(g:H[b]?=some (qF 4 [[.n op,.n n,.str s,.sl m 4 l]])){o k:Nat}:
  DX jA H 23 (.ptr b 0 3) (.own o 0 k)=some (H.set b (qF 4 [[.n op,.n n,.str s,.own o 0 k]])):=by
 rw[IY (cs:=[.own o 0 k]) rfl (AZ:szO jA 23=some 1) g A8]; rfl
section
variable (G:Nat->AV)
theorem ABN (vs:List Vr)(m:SM)(hl:vs.length<=1048576)(hv:∀v∈vs,FK v.name=true)(a:ByteArray)(ha:a.size<=1048576)(i:Ex)(hw:wt i<=1048576)(hi:i.op=1->0<=i.n)(h:Hp):PCall (En G) 256 [.agg [.sl m 4 (vs.map encV)],.str a,.agg (AY i)] h (.agg (AY (dW cpE a i (szA vs a)))):=by
 have hsz:=sE vs a;refine ACalls.pure (R:=fun v H=>v=.agg (AY (dW cpE a i (szA vs a)))∧Sm.ext h H) 3 ?_ (fun v H ⟨a,b⟩=>⟨b,by rw[a]; exact QS _ _ 0 _⟩);refine acL Tryz.func256 [.cell 6 79] ?_;have gs:isS (h++[qF 1 [[.sl m 4 (vs.map encV)]]]++[qF 4 [AY i]]++[qF 4 [EQ]]) h.length m vs:=AL (AL (AX _ _));have ge:=AL (x:=qF 4 [EQ]) (AX (h++[qF 1 [[.sl m 4 (vs.map encV)]]]) (qF 4 [AY i]));have gr:=AX (h++[qF 1 [[.sl m 4 (vs.map encV)]]]++[qF 4 [AY i]]) (qF 4 [EQ]);have hx:Sm.ext h (h++[qF 1 [[.sl m 4 (vs.map encV)]]]++[qF 4 [AY i]]++[qF 4 [EQ]]):=(((ext.rfl' h).app _).app _).app _;have e1:(h++[qF 1 [[.sl m 4 (vs.map encV)]]]).length=h.length+1:=A8;have e2:(h++[qF 1 [[.sl m 4 (vs.map encV)]]]++[qF 4 [AY i]]).length=h.length+2:=A8;refine EO @bxS @bxE QW z4 ?_
 rw[e1] at ge|-
 rw[e2] at gr|-
 generalize h++[qF 1 [[.sl m 4 (vs.map encV)]]]++[qF 4 [AY i]]++[qF 4 [EQ]]=H1 at gs ge gr hx|-
 clear e1 e2;refine AO (isS.ld gs) ?_;refine(size_prog G vs m hl hv a ha H1).use ?_;refine AO (AKD ge) ?_;cases b1:(i.op==1)
 case true =>
  have ho:i.op=1:=BL b1;have h0:=hi ho;refine AQ b1 (exN ge) ?_;cases b2:decide (i.n<((szA vs a:Nat):Int))
  .have q:=of_decide_eq_false b2
   refine AO b2 ?_;refine(WP G 0 H1).use ?_;refine AO (QH (e:=cE 0) gr rfl) ?_;rw[JA (b:=h.length+2) EX (O6 (CQ gr))];exact⟨by unfold dW; rw[if_pos ho,if_neg q],hx.set U _⟩
  .have q:=of_decide_eq_true b2
   obtain⟨k,hk⟩:=Int.eq_ofNat_of_zero_le h0;have hv2:=QA G a k U ha H1;rw[<-hk] at hv2;refine AQ b2 (exN ge) ?_;refine hv2.use ?_;refine AO (QH (e:=vaE a k) gr rfl) ?_;rw[JA (b:=h.length+2) EX (O6 (CQ gr))];exact⟨by unfold dW; rw[if_pos ho,if_pos q,hk,Int.toNat_natCast],hx.set U _⟩
 have o1:¬i.op=1:=BL b1;refine AO b1 ?_;refine(WP G 0 H1).use ?_;have gs:=AL (x:=qF 4 [AY (cE 0)]) gs;have ge:=AL (x:=qF 4 [AY (cE 0)]) ge;have lr:=AB gr;have gr:=AL (x:=qF 4 [AY (cE 0)]) gr;have go:=AX H1 (qF 4 [AY (cE 0)]);have hx:=hx.app [qF 4 [AY (cE 0)]];have w1:IntKind.i64.wrap (((szA vs a:Nat):Int)-1)=((szA vs a:Nat):Int)-1:=wrap_i64 U U;refine DI al79 st79 w1 ?_
 generalize H1++[qF 4 [AY (cE 0)]]=H2 at gs ge gr go hx|-
 generalize H1.length=ob at go lr|-
 refine D9 0 (fun F H=>F 6=.ptr (h.length+2) 0 0∧F 8=.ptr ob 0 0∧H[h.length+2]?=some (qF 4 [EQ])∧H[ob]?=some (qF 4 [AY (chK cpE a i (szA vs a) (szA vs a))])∧Sm.ext h H) (fun _ _=>False) ?_ ?_ (fun _ _ q=>q.elim)
 .refine BB (fun n F H=>∃j,n+j=szA vs a∧F 1=.str a∧F 5=.ptr (h.length+1) 0 0∧F 6=.ptr (h.length+2) 0 0∧F 8=.ptr ob 0 0∧F 9=.n (((szA vs a:Nat):Int)-1-(j:Nat))∧H[h.length+1]?=some (qF 4 [AY i])∧H[h.length+2]?=some (qF 4 [EQ])∧H[ob]?=some (qF 4 [AY (chK cpE a i (szA vs a) j)])∧Sm.ext h H) (szA vs a)
   ⟨0,U,EX,EX,EX,EX,by simp -implicitDefEqProofs only[AU,↓reduceIte]; simp,ge,gr,go,hx⟩ ?_
  clear gs ge gr go hx;rintro n F H ⟨j,hj,f1,f5,f6,f8,f9,ge,gr,go,hx⟩;refine AO f9 ?_;refine BG ?_ ?_<;>intro hc
  .have hc:j<szA vs a:=by have:=of_decide_eq_true hc; omega
   have ek:((szA vs a:Nat):Int)-1-(j:Nat)=((szA vs a-1-j:Nat):Int):=U;have w2:IntKind.i64.wrap (((szA vs a-1-j:Nat):Int)-1)=((szA vs a:Nat):Int)-1-((j+1:Nat):Int):=by rw[wrap_i64 U U]; omega
   rw[ek] at f9;have s2:=QH (e:=chK cpE a i (szA vs a) (j+1)) go (EF _);refine Z ?_;refine DJ AZ ?_;refine MR f1 f5 f8 f9 (IW ge) (O6 go) ?_;refine⟨_,ABK G (wt i) i H (jF _) hw,?_⟩
   try refine EO f1 f8 f9 (O6 go) ?_
   refine⟨_,WP G _ H,?_⟩
   try refine JL @dZ f1 f8 f9 (O6 go) ?_
   refine⟨_,dA G 15 .full [cpE i,cE ((szA vs a-1-j:Nat):Int)] H,?_⟩
   try refine EO f1 f8 f9 (O6 go) ?_
   refine⟨_,QA G a (szA vs a-1-j) U ha H,?_⟩
   try refine JL bs3 f1 f8 f9 (O6 go) ?_
   refine⟨_,dA G 22 .full [.mk 15 0 ⟨#[]⟩ .full [cpE i,cE ((szA vs a-1-j:Nat):Int)],vaE a (szA vs a-1-j),chK cpE a i (szA vs a) j] H,?_⟩;change DX jA H 79 (.ptr ob 0 0) (.agg (AY (.mk 22 0 ⟨#[]⟩ .full [.mk 15 0 ⟨#[]⟩ .full [cpE i,cE ((szA vs a-1-j:Nat):Int)],vaE a (szA vs a-1-j),chK cpE a i (szA vs a) j])))=_ at s2;refine EO f8 s2 f9 w2 ?_;exact⟨n-1,U,j+1,U,A7,A7,A7,A7,A7,by rw[zL U]; exact ge,by rw[zL U]; exact gr,CQ go,hx.set U _⟩
  .have hc:¬j<szA vs a:=fun q=>by rw[decide_eq_true U] at hc; cases hc
   have e:j=szA vs a:=U;rw[e] at go;refine Z ?_;exact⟨A7,A7,gr,go,hx⟩
 rintro F H ⟨f6,f8,gr,go,hx⟩;simp -implicitDefEqProofs only[vQ,Y5,CJ,↓reduceIte,jC,enP,jQ,f6,f8,O6 go,QH gr rfl];rw[JA (b:=h.length+2) (TN f6) (O6 (CQ gr))];exact⟨by unfold dW; rw[if_neg o1],hx.set U _⟩
theorem AJO (vs:List Vr)(m:SM)(hl:vs.length<=1048576)(hv:∀v∈vs,FK v.name=true)(e:Ex):NdOk e->PP vs e=false->(H6 vs e).1<=400->∀h:Hp,PCall (En G) 177 [.agg [.sl m 4 (vs.map encV)],.agg (AY e)] h (.agg (AY (IA sdP vs e))):=by
 induction e using Ex.induct with|h e ih=>?_
 intro hn hu hsm h;have hnm:=hn.name;have hal:=hn.len;refine ACalls.pure (R:=fun v H=>Sm.ext h H∧FI h.length H 4 v=.agg (AY (IA sdP vs e))) 4 ?_ (fun v H ⟨a,b⟩=>⟨a,b⟩);refine acL Tryz.func177 [.cell 4 79] ?_;have hscl:=aT sdP vs e;unfold scF at hscl;have gs:isS (h++[qF 1 [[.sl m 4 (vs.map encV)]]]++[qF 4 [AY e]]++[qF 4 [EQ]]) h.length m vs:=AL (AL (AX _ _));have ge:=AL (x:=qF 4 [EQ]) (AX (h++[qF 1 [[.sl m 4 (vs.map encV)]]]) (qF 4 [AY e]));have gr:=AX (h++[qF 1 [[.sl m 4 (vs.map encV)]]]++[qF 4 [AY e]]) (qF 4 [EQ]);have hx:Sm.ext h (h++[qF 1 [[.sl m 4 (vs.map encV)]]]++[qF 4 [AY e]]++[qF 4 [EQ]]):=(((ext.rfl' h).app _).app _).app _;have e1:(h++[qF 1 [[.sl m 4 (vs.map encV)]]]).length=h.length+1:=A8;have e2:(h++[qF 1 [[.sl m 4 (vs.map encV)]]]++[qF 4 [AY e]]).length=h.length+2:=A8;refine EO @bxS @bxE QW z4 ?_
 rw[e1] at ge|-
 rw[e2] at gr|-
 generalize h++[qF 1 [[.sl m 4 (vs.map encV)]]]++[qF 4 [AY e]]++[qF 4 [EQ]]=H1 at gs ge gr hx|-
 clear e1 e2;refine AO (AKD ge) ?_;cases b24:(e.op==24)
 case true =>
  have ho:e.op=24:=BL b24;rw[if_pos ho] at hscl;refine DI b24 (isS.ld gs) (ZY ge) ?_;refine(AL4 G vs m hl hv e.name U (U3 hu (.inr ho)) H1).use ?_;refine AO (QH (e:=ZE e.name (szA vs e.name-1)) gr rfl) ?_;rw[JA (b:=h.length+2) AC (O6 (CQ gr))];exact⟨hx.set U _,by rw[hscl]; exact QS _ _ 1 _⟩
 have o24:¬e.op=24:=BL b24;rw[if_neg o24] at hscl;have lr:=AB gr;refine DI b24 (TU ge) (AY9 H1 e.args.length U) ?_;have ho:fW h ((e.args.map (IA sdP vs)).take 0) (.own H1.length 0 0) (H1++[qF 4 (zD e.args.length EQ)]):=⟨H1.length,zD e.args.length EQ,hx.le,rfl,A8⟩;have gs:=AL (x:=qF 4 (zD e.args.length EQ)) gs;have ge:=AL (x:=qF 4 (zD e.args.length EQ)) ge;have gr:=AL (x:=qF 4 (zD e.args.length EQ)) gr;have hx:=hx.app [qF 4 (zD e.args.length EQ)];have hb0:∀b,isB (.own H1.length 0 0) b->h.length+2<b:=fun b hb=>by cases hb; omega
 generalize H1++[qF 4 (zD e.args.length EQ)]=H2 at gs ge gr hx ho|-
 refine AO (TU ge) ?_;generalize AV.own H1.length 0 0=v0 at ho hb0;have hsl:(e.args.map (IA sdP vs)).length=e.args.length:=jL _;refine D9 0 (fun F H=>∃v,F 2=.ptr h.length 0 0∧F 3=.ptr (h.length+1) 0 0∧F 4=.ptr (h.length+2) 0 0∧F 5=v∧isS H h.length m vs∧H[h.length+1]?=some (qF 4 [AY e])∧H[h.length+2]?=some (qF 4 [EQ])∧Sm.ext h H∧fW h (e.args.map (IA sdP vs)) v H∧∀b,isB v b->h.length+2<b) (fun _ _=>False) ?_ ?_ (fun _ _ q=>q.elim)
 .refine BB (fun n F H=>∃j v,n+j=e.args.length∧F 2=.ptr h.length 0 0∧F 3=.ptr (h.length+1) 0 0∧F 4=.ptr (h.length+2) 0 0∧F 5=v∧F 20=.sl e.m 4 (e.args.map AY)∧F 21=.n (e.args.length:Nat)∧F 22=.n (j:Nat)∧isS H h.length m vs∧H[h.length+1]?=some (qF 4 [AY e])∧H[h.length+2]?=some (qF 4 [EQ])∧Sm.ext h H∧fW h ((e.args.map (IA sdP vs)).take j) v H∧∀b,isB v b->h.length+2<b) e.args.length
   ⟨0,v0,A8,AC,AC,AC,AC,AC,AC,AC,gs,ge,gr,hx,ho,hb0⟩ ?_
  clear gs ge gr hx ho hb0;rintro n F H ⟨j,v,hj,f2,f3,f4,f5,f20,f21,f22,gs,ge,gr,hx,ho,hb0⟩;refine AQ f21 f22 ?_;refine DU ?_ ?_<;>intro hj'
  .have hmem:e.args[j]∈e.args:=List.getElem_mem hj'
   have ga:=AX H (qF 4 [AY e.args[j]]);have gs:=AL (x:=qF 4 [AY e.args[j]]) gs;have ge:=AL (x:=qF 4 [AY e.args[j]]) ge;have gr:=AL (x:=qF 4 [AY e.args[j]]) gr;have hx:=hx.app [qF 4 [AY e.args[j]]]
   have ho:fW h ((e.args.map (IA sdP vs)).take j) v (H++[qF 4 [AY e.args[j]]]):=by
    obtain⟨o,tail,q1,q2,q3⟩:=ho;exact⟨o,tail,q1,q2,AL q3⟩
   simp -implicitDefEqProofs only[vQ,CJ,↓reduceIte,jC,enP,PK,jQ,f20,f22,CG hj',CY OZ I8 EF hj',al79,st79]
   generalize H++[qF 4 [AY e.args[j]]]=H3 at gs ge gr hx ga ho|-
   refine EO f2 f5 (isS.ld gs) (IW ga) ?_;refine(ih e.args[j] hmem (hn.arg hmem) (QB hu hmem) (uC hn hu hsm hmem) H3).use ?_;obtain⟨v',H',a1,a2,a3,a4,a5⟩:=yJ ho hx (by rw[List.length_take]; omega) (IA sdP vs e.args[j]);have hit:j<(e.args.map (IA sdP vs)).length:=U;have hget:(e.args.map (IA sdP vs))[j]=IA sdP vs e.args[j]:=A8;rw[<-hget,<-jW hit] at a2;have lr3:=AB gr;refine EO @rB a1 f22 (CW j) ?_;refine⟨n-1,U,j+1,v',U,A7,A7,A7,A7,A7,A7,A7,a4 _ _ gs (fun q=>?_),a4 _ _ ge (fun q=>?_),a4 _ _ gr (fun q=>?_),a3,a2,fun b hb=>?_⟩
   .have:=hb0 _ q; omega
   .have:=hb0 _ q; omega
   .have:=hb0 _ q; omega
   .have:=a5 b hb; omega
  .rw[jJ U] at ho
   refine Z ?_;exact⟨v,A7,A7,A7,A7,gs,ge,gr,hx,ho,hb0⟩
 clear gs ge gr hx ho hb0;rintro F H ⟨v,f2,f3,f4,f5,gs,ge,gr,hx,ho,hb0⟩;obtain⟨o,tail,q1,rfl,q3⟩:=ho;have hbo:=hb0 o rfl;refine AQ f3 (AKD ge) ?_;cases b3:(e.op==3)
 case true =>
  have o3:e.op=3:=BL b3;rw[if_pos o3] at hscl;obtain⟨b,hb⟩:=UK hn.self o3;have hm:b∈e.args:=by rw[hb]; simp
  have hargs:e.args.map (IA sdP vs)=[IA sdP vs b]:=by rw[hb]; rfl
  rw[hargs] at hscl q3;have hw:=AMD AFZ (hn.arg hm) (QB hu hm) (uC hn hu hsm hm);obtain⟨c1,c2⟩:=cS (s:=sdP) (hn.arg hm) (QB hu hm);have hlen:(e.args.map (IA sdP vs)).length=1:=by rw[hargs]; rfl
  rw[hlen] at f5;have ix0:JM 4 H (.own o 0 1) (.n 0)=some (.ptr o 0 0):=IG q3 (show 0<1 from Nat.one_pos)
  have ld0:BO jA H 79 (.ptr o 0 0)=some (.agg (AY (IA sdP vs b))):=by
   rw[EH OZ I8 q3 (row:=AY (IA sdP vs b)) rfl (by rw[EF]; exact jF 4),List.drop_zero,jJ (by rw[EF]; exact jF 4)]
  refine AO b3 ?_;refine DJ AZ ?_;refine QZ f2 f3 f4 f5 (isS.ld gs) (ZY ge) ix0 ld0 ?_;refine⟨_,ABN G vs m hl hv e.name U (IA sdP vs b) U (fun q=>by rw[c2 (c1.1 q)]; exact c1.1 q) H,?_⟩;refine AQ f4 (QH (e:=dW cpE e.name (IA sdP vs b) (szA vs e.name)) gr rfl) ?_;rw[JA (b:=h.length+2) (DW f4) (O6 (CQ gr))];exact⟨hx.set U _,by rw[hscl]; exact QS _ _ 1 _⟩
 have o3:¬e.op=3:=BL b3;rw[if_neg o3] at hscl;generalize hys:e.args.map (IA sdP vs)=ys at *;have ge2:=ge;rw[EY] at ge2;have hst:=AYJ ge2 (o:=o) (k:=ys.length);have g1':(H.set (h.length+1) (qF 4 [[.n e.op,.n e.n,.str e.name,.own o 0 ys.length]]))[h.length+1]?=some (qF 4 [[.n e.op,.n e.n,.str e.name,.own o 0 ys.length]]):=CQ ge2;have g2':(H.set (h.length+1) (qF 4 [[.n e.op,.n e.n,.str e.name,.own o 0 ys.length]]))[h.length+2]?=some (qF 4 [EQ]):=by rw[zL U]; exact gr
 have q3':(H.set (h.length+1) (qF 4 [[.n e.op,.n e.n,.str e.name,.own o 0 ys.length]]))[o]?=some (qF 4 (ys.map AY++tail)):=by rw[zL U]; exact q3
 have hx':=hx.set (b:=h.length+1) U (qF 4 [[.n e.op,.n e.n,.str e.name,.own o 0 ys.length]]);refine JL b3 f3 f4 f5 hst ?_
 generalize H.set (h.length+1) (qF 4 [[.n e.op,.n e.n,.str e.name,.own o 0 ys.length]])=H3 at g1' g2' q3' hx'|-
 have hlf4:([.n e.op,.n e.n,.str e.name,.own o 0 ys.length]:List AV).all AV.leaf=true:=rfl;refine EO f3 f4 (KY g1' rfl) (VQ g2' rfl rfl hlf4) ?_;rw[JA (b:=h.length+2) (DW f4) (KY (CQ g2') rfl)];refine⟨hx'.set U _,?_⟩;have ho4:fW h ys (.own o 0 ys.length) (H3.set (h.length+2) (qF 4 [[.n e.op,.n e.n,.str e.name,.own o 0 ys.length]])):=⟨o,tail,q1,rfl,by rw[zL U]; exact q3'⟩;have hz:=yI ho4 1;show AV.agg [.n e.op,.n e.n,.str e.name,FI h.length _ 3 (.own o 0 ys.length)]=_;rw[hz,hscl,EY]; rfl
theorem A1K (h:Hp):F9 jA h 233=some (.ptr h.length 0 0,h++[qF 1 [[.sl .nil 0 []]]]):=FC (row:=[.sl .nil 0 []]) AZ
theorem A1C (m:SM)(xs:List (List AV)):IR jA 233 [(0,.sl m 4 xs)]=some (.agg [.sl m 4 xs]):=AZ
theorem AYM (h:Hp)(m:SM)(vs:List Vr):DX jA (h++[qF 1 [[.sl .nil 0 []]]]) 233 (.ptr h.length 0 0) (.agg [.sl m 4 (vs.map encV)])=some (h++[qF 1 [[.sl m 4 (vs.map encV)]]]):=by
 rw[IY (cs:=[.sl m 4 (vs.map encV)]) (row:=[.sl .nil 0 []]) rfl AUK (AX _ _) (jF 1),KH]; rfl
theorem bdZ:IR jA 79 []=some (.agg EQ):=AZ
theorem stZ (g:H[b]?=some (qF 4 [EQ])):DX jA H 79 (.ptr b 0 0) (.agg EQ)=some (H.set b (qF 4 [EQ])):=VQ g rfl rfl rfl
theorem WS {p:Pr}(hb:H[b]?=some (qF 5 [CX p])):BO jA H 27 (.ptr b 0 0)=some (.agg (CX p)):=by rw[EH mP fR hb (row:=CX p) rfl (by rw[NV]; exact jF 5)]; rfl
theorem AYX {p:Pr}(P:PV p):∀v∈p.vars,FK v.name=true:=fun v hv=>(U1 (P.vr v hv)).1
theorem AME {s:Bw}(h:scC vs e=0):scV s vs e=.tup [.agg (AY (IA s vs e)),.n 0]:=by unfold scV; rw[if_pos h,h]
theorem ACY {s:Bw}{z:Int}(h:scC vs e=z)(hz:z≠0):scV s vs e=.tup [.agg EQ,.n z]:=by unfold scV; rw[if_neg (by rw[h]; exact hz),h]
theorem AQ2 (s:Bw)(vs:List Vr)(e:Ex)(n:Nat)(H:Hp):FI n H 4 (scV s vs e)=scV s vs e:=by
 unfold scV;split
 .show AV.tup [FI n H 3 (.agg (AY _)),.n _]=_
  rw[QS n H 0]
 .rfl
theorem ACB (hG:GOk G)(p:Pr)(hs:PrS p)(hv:JY p=0)(e:Ex)(he:exE e=0)(h:Hp):PCall (En G) 97 [.agg (CX p),.agg (AY e)] h (scV sdP p.vars e):=by
 have P:=PV.of hv;have hn:=NdOk.of he;have hvb:=AYX P;have hvl:=hs.vars;have hw:=AOR he;refine ACalls.pure (R:=fun v H=>v=scV sdP p.vars e∧Sm.ext h H) 4 ?_ (fun v H ⟨a,b⟩=>⟨b,by rw[a]; exact AQ2 _ _ _ _ _⟩);refine acL Tryz.func97 [.cell 4 79,.tmp 5] ?_;have gp:=AL (x:=qF 4 [EQ]) (AL (x:=qF 4 [AY e]) (AX h (qF 5 [CX p])));have ge:=AL (x:=qF 4 [EQ]) (AX (h++[qF 5 [CX p]]) (qF 4 [AY e]));have gr:=AX (h++[qF 5 [CX p]]++[qF 4 [AY e]]) (qF 4 [EQ]);have hx:Sm.ext h (h++[qF 5 [CX p]]++[qF 4 [AY e]]++[qF 4 [EQ]]):=(((ext.rfl' h).app _).app _).app _;have e1:(h++[qF 5 [CX p]]).length=h.length+1:=A8;have e2:(h++[qF 5 [CX p]]++[qF 4 [AY e]]).length=h.length+2:=A8;refine EO @SS @bxE QW z4 ?_
 rw[e1] at ge|-
 rw[e2] at gr|-
 generalize h++[qF 5 [CX p]]++[qF 4 [AY e]]++[qF 4 [EQ]]=H1 at gp ge gr hx|-
 clear e1 e2;refine AO (WS gp) ?_;refine(Bd.valid_prog G hG p hs H1).use ?_;refine AQ (show(JY p != 0)=false by rw[hv]; rfl) (IW ge) ?_;refine(NT G hG e H1 U).use ?_;have lr:=AB gr;refine JL (show(exE e != 0)=false by rw[he]; rfl) (nM gp) A1C A1K AYM ?_;have gs:isS (H1++[qF 1 [[.sl p.vm 4 (p.vars.map encV)]]]) H1.length p.vm p.vars:=AX _ _;have ge:=AL (x:=qF 1 [[.sl p.vm 4 (p.vars.map encV)]]) ge;have gr:=AL (x:=qF 1 [[.sl p.vm 4 (p.vars.map encV)]]) gr;have hx:=hx.app [qF 1 [[.sl p.vm 4 (p.vars.map encV)]]]
 generalize H1++[qF 1 [[.sl p.vm 4 (p.vars.map encV)]]]=H2 at gs ge gr hx|-
 generalize H1.length=sb at gs lr|-
 have bad:∀(z:Int) (F:Fr),scC p.vars e=z->z≠0->F 4=.ptr (h.length+2) 0 0->F 5=.n z->NU jA [.cell 4 79,.tmp 5] (fun v H=>v=scV sdP p.vars e∧Sm.ext h H) .ret F (H2.set (h.length+2) (qF 4 [EQ])):=fun z F q1 q2 f4 f5=>by
  rw[uF (ba:=h.length+2) f4 (KY (CQ gr) rfl),f5];exact⟨by rw[ACY q1 q2],hx.set U _⟩
 refine AQ (isS.ld gs) (IW ge) ?_;refine(ANQ G p.vars p.vm hvl hvb e hn H2).use ?_;cases bu:PP p.vars e
 case true =>
  refine AQ @bdZ (stZ gr) ?_;exact bad 7 _ (by unfold scC; rw[if_pos bu]) DK EX EX
 have hc1:scC p.vars e=if 400<(H6 p.vars e).1 then 2 else exE (IA sdP p.vars e):=by unfold scC; rw[if_neg (by rw[bu]; decide)]
 refine AQ (isS.ld gs) (IW ge) ?_;refine(AKC G p.vars p.vm hvl hvb e hn bu H2).use ?_;have fx:mS jA 235 (.agg (exR (H6 p.vars e))) 0=some (.n ((H6 p.vars e).1:Nat)):=AZ;refine AQ @AQR fx ?_;cases bx:decide ((((H6 p.vars e).1:Nat):Int)>400)
 case true =>
  have q:=of_decide_eq_true bx;refine DI bx @bdZ (stZ gr) ?_;exact bad 2 _ (by rw[hc1,if_pos U]) DK EX EX
 have q:=of_decide_eq_false bx;rw[if_neg U] at hc1;have hx400:(H6 p.vars e).1<=400:=U;refine DI bx (isS.ld gs) (IW ge) ?_;refine(AJO G p.vars p.vm hvl hvb e hn bu hx400 H2).use ?_;have hwo:=AMD AFZ hn bu hx400;have go:=AX H2 (qF 4 [AY (IA sdP p.vars e)]);have gr':=AL (x:=qF 4 [AY (IA sdP p.vars e)]) gr;have hx':=hx.app [qF 4 [AY (IA sdP p.vars e)]];refine AQ al79 st79 ?_
 generalize H2++[qF 4 [AY (IA sdP p.vars e)]]=H3 at go gr' hx'|-
 refine AO (O6 go) ?_;refine(NT G hG (IA sdP p.vars e) H3 U).use ?_;cases bz:(exE (IA sdP p.vars e) != 0)
 case true =>
  have qz:exE (IA sdP p.vars e)≠0:=BL bz;refine DI bz @bdZ (stZ gr') ?_;rw[uF (ba:=h.length+2) EX (KY (CQ gr') rfl)];refine Z ?_;exact⟨by rw[ACY hc1 qz],hx'.set U _⟩
 have qz:exE (IA sdP p.vars e)=0:=BL bz;simp -implicitDefEqProofs only[vQ,CJ,↓reduceIte,jC,enP,jQ,bz,O6 go,QH gr' rfl];rw[uF (ba:=h.length+2) EX (O6 (CQ gr'))];refine Z ?_;exact⟨by rw[AME (hc1.trans qz)],hx'.set U _⟩
end
theorem AVV {a b a' b':List AV}(h1:CvRow a a')(h2:CvRow b b'):Cv (.sl .full 4 [a,b]) (.sl .full 4 [a',b']):=Cv.rows rfl fun i r r' p q=>by
 match i,p,q with
 | 0,p,q=>cases p; cases q; exact h1
 | 1,p,q=>cases p; cases q; exact h2
def R4 (r:List AV):Prop:=∃a n s m k xs,r=[.n a,.n n,.str s,.sl m k xs]
theorem R4.enc (e:Ex):R4 (AY e):=⟨_,_,_,_,_,_,EY e⟩
theorem R4.len (h:R4 r):r.length=4:=by obtain⟨_,_,_,_,_,_,rfl⟩:=h; rfl
theorem R4.leaf {r:List AV}(h:R4 r):r.all AV.leaf=true:=by obtain⟨_,_,_,_,_,_,rfl⟩:=h; rfl
theorem A3P (h:Hp){s:List AV}(hr:R4 r)(hs:R4 s):C9 jA false h 23 2 [(0,.agg r),(1,.agg s)]=some (.sl .full 4 [r,s],h):=by
 obtain⟨_,_,_,_,_,_,rfl⟩:=hr;obtain⟨_,_,_,_,_,_,rfl⟩:=hs
 kernel_rfl
abbrev isW (i:Ex)(k:Nat):List AV:=[.n 15,.n 0,.str ⟨#[]⟩,.sl .full 4 [AY i,lY 1 (k:Nat)]]
def chW (a:ByteArray)(i:Ex)(n:Nat):Nat->List AV
 | 0=>lY 1 0
 | j+1=>[.n 22,.n 0,.str ⟨#[]⟩,.sl .full 4 [isW i (n-1-j),AY (vaE a (n-1-j)),chW a i n j]]
theorem R4.is (i:Ex)(k:Nat):R4 (isW i k):=⟨_,_,_,_,_,_,rfl⟩
theorem R4.ch (a:ByteArray)(i:Ex)(n:Nat):∀j,R4 (chW a i n j)
 | 0=>⟨_,_,_,_,_,_,rfl⟩
 | _+1=>⟨_,_,_,_,_,_,rfl⟩
theorem AL6 (h:Hp)(hr:R4 r):DX jA (h++[qF 4 [[.n 0,.n 0,.str ⟨#[]⟩,.sl .nil 0 []]]]) 79 (.ptr h.length 0 0) (.agg r)=some (h++[qF 4 [r]]):=by
 rw[VQ (AX _ _) rfl hr.len hr.leaf,KH]
def csW (a:ByteArray)(i:Ex)(n:Nat):List AV:=if i.op=1 then (if i.n<(n:Int) then AY (vaE a i.n.toNat) else lY 1 0) else chW a i n n
theorem R4.cs (a:ByteArray)(i:Ex)(n:Nat):R4 (csW a i n):=by
 unfold csW;split
 .split
  .exact R4.enc _
  .exact⟨_,_,_,_,_,_,rfl⟩
 .exact R4.ch a i n n
end Go.Proofs.YtiihpnicbekebaaGreatDoor.Bd.Cl
namespace Go.Proofs.YtiihpnicbekebaaGreatDoor.Ho
open Sm Bins Cov Go.RowKit
def AC1 (l:List Ex):List AV:=[fzG 4 AY l]
theorem ASR:Frz AC1:=fun _ _ _ l=>by cases l<;>exact⟨rfl,rfl⟩
theorem A00 (h:Hp)(l:List Ex):C9 jA false h 100 1 [(0,fzG 4 AY l)]=some (.sl .full 1 [AC1 l],h):=by
 cases l with
 | nil=>show C9 jA false h 100 1 [(0,.sl .nil 0 [])]=some (.sl .full 1 [[.sl .nil 0 []]],h); kernel_rfl
 | cons x xs=>exact AU8 h .any _
end Go.Proofs.YtiihpnicbekebaaGreatDoor.Ho
