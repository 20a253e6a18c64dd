/- Part 17 of the proof (Ih, Ii, Ij, Ik, Il, Im); no condition. -/
import Derived.Test.YtgnoolgeijmlaaaGreatDoorZE16
set_option linter.unusedVariables false
set_option linter.unusedSimpArgs false
set_option maxRecDepth 8000
namespace Go.Proofs.YtgnoolgeijmlaaaGreatDoor.Bl
open Sm Bins Cov Xe Wd Go.Proofs.YtgnoolgeijmlaaaGreatDoor.Bd Go.RowKit
open Bool renaming not_false→jC,false_eq_true→jQ
open Int renaming eq_ofNat_of_zero_le→qM,reduceBEq→zG
open List renaming contains_nil→jI,map_cons→jF,map_nil→jE,append_nil→jD,append_assoc→zJ,drop_eq_nil_of_le→zF,getD_eq_getElem?_getD→zM,getElem?_eq_getElem→jX,getElem_mem→zC,drop_eq_getElem_cons→zU,length_map→jR,getElem?_cons_succ→jU,getElem?_cons_zero→jT,replicate→jJ,getElem?_set_ne→jS,drop_zero→qL,take_of_length_le→zH,mem_append→qE,mem_singleton→wB
open Nat renaming le_of_ble_eq_true→jH,reduceBEq→jK,reduceEqDiff→jA,le_refl→jP,reduceAdd→jM,lt_or_ge→jY,add_zero→jL,zero_add→jG
open Option renaming getD_some→jB,getD_none→jO
def lgN (op:Int)(x y:Wrd):M Nat:=(trL x 0).bnd fun s=>(trL y 0).bnd fun t=>if op=19 then KA s t else if op=20 then oOr s t else (LQ s).bnd fun n=>oOr n t
theorem ALH (op:Int)(x y:Wrd):lgL op x y=(lgN op x y).bnd fun r=>ret (sgl r):=by
 unfold lgL lgN;rw[G9];refine congrArg (M.bnd _) (funext fun s=>?_);rw[G9];refine congrArg (M.bnd _) (funext fun t=>?_);split
 .rfl
 .split
  .rfl
  .rw[G9]
theorem AZL (op:Int){l:Dg}(v:VD l){x y:Wrd}(ox:LOk l x)(oy:LOk l y):Sp l (lgN op x y) fun r l'=>r<l'.length:=by
 refine(QI x l 0 v ox v.p0).bnd fun s l1 v1 x1 q1=>?_
 refine(QI y l1 0 v1 (oy.go x1) v1.p0).bnd fun t l2 v2 x2 q2=>?_
 have hs:=x2.lt q1.1;split
 .exact(O8 v2 hs q2.1).mono fun _ _ _ _ q=>q.1
 .split
  .exact(U0 v2 hs q2.1).mono fun _ _ _ _ q=>q.1
  .refine(OE v2 hs).bnd fun n l3 v3 x3 q3=>?_
   exact(U0 v3 q3.1 (x3.lt q2.1)).mono fun _ _ _ _ q=>q.1
section
variable (G:Nat->AV) {bb ba bk:Nat} {rest:List AV} {nb:Nat} {l:Dg} {e:Bool} {H:Hp}
set_option maxHeartbeats 4000000 in
theorem ARC (s:RS bb ba bk rest nb l e H)(left:Bool)(x y:Wrd)(hx:x.length=16)(hy:y.length=16)(ox:e=false->LOk l x)(oy:e=false->LOk l y):Cr G bb ba bk rest nb 98 [.ptr bb 0 0,wS x,wS y,.int .i64 (NW left)] H l e (shS left x y 16 0 (cst 0)) vW oW:=by
 refine Cr.of ?_ (fun he=>VB left s.v hx hy (ox he) (oy he)) (fun a l' q=>q.1.2);generalize hT:shS left x y 16 0 (cst 0)=TM;refine IV (H:=hint [] [(57,[9])]) (enM G) Tryz.func98 rfl (by kernel_rfl) (by kernel_rfl) (jH (by kernel_rfl)) ?_;show awp _ _ _ _ _ (EK _ [.tmp 8] _);simp -implicitDefEqProofs only[vQ,jI,jK,BD,↓reduceIte,enP,jQ];refine ACalls.mono (show ACalls (En G) 89 [.int .i64 0] H _ from QY G 0 (by omega) H) ?_;rintro _ _ ⟨rfl,rfl⟩;have q0:isI (H++[.live 1 ((wI (cst 0)).map qencI)]) H.length (wI (cst 0)):=CU _ _;have WB:=(Wk.rfl' s).app (.live 1 ((wI (cst 0)).map qencI));generalize H++[.live 1 ((wI (cst 0)).map qencI)]=B at q0 WB|-;simp -implicitDefEqProofs only[vQ,jI,jK,BD,↓reduceIte,jQ];refine GI 0 (fun F H'=>∃d l' e' nb',d.length=16∧rn TM l e=rn (ret d) l' e'∧Wk bb ba bk rest nb l e H nb' l' e' H'∧isI H' H.length (wI d)∧F 9=.own H.length 0 16) (fun _ _=>False) ?_ ?_ (fun _ _ q=>q.elim)
 .refine D7 (fun m F H'=>∃k d l' e' nb',m+k=16∧d.length=16∧(e'=false->LOk l' d)∧rn (shS left x y m k d) l' e'=rn TM l e∧Wk bb ba bk rest nb l e H nb' l' e' H'∧isI H' H.length (wI d) ∧
   F 0=.ptr bb 0 0∧F 1=wS x∧F 2=wS y∧F 3=.int .i64 (NW left)∧F 9=.own H.length 0 16∧F 10=.int .i64 (k:Nat)) 16
   ⟨0,cst 0,l,e,nb,rfl,H8 0,fun _=>LOk.cst s.v 0,by rw[<-hT],WB,q0,by simp -implicitDefEqProofs only[vQ,↓reduceIte,jA],by simp -implicitDefEqProofs only[vQ,↓reduceIte,jA],by simp -implicitDefEqProofs only[vQ,↓reduceIte,jA],by simp -implicitDefEqProofs only[vQ,↓reduceIte,jA],by simp -implicitDefEqProofs only[AA,↓reduceIte,jA],by simp -implicitDefEqProofs only[AA,↓reduceIte]; rfl⟩ ?_
  clear q0 WB;rintro m F H0 ⟨k,d0,l0,e0,nb0,hm,hd,od,hS,W,q9,f0,f1,f2,f3,f9,f10⟩;simp -implicitDefEqProofs only[vQ,jI,jK,BD,↓reduceIte,enP,jQ,f10,MN];refine C9 (fun hc=>?_) (fun hc=>?_)
  .have hk':k<16:=by simpa using hc
   obtain⟨m,rfl⟩:∃m',m=m'+1:=⟨m-1,by omega⟩
   have hS:rn ((eqL y (cst k) 1).bnd fun t=>(shI t x (frL left k) d0 0).bnd fun out'=>shS left x y m (k+1) out') l0 e0=rn TM l e:=hS;simp -implicitDefEqProofs only[vQ,jI,jK,BD,↓reduceIte,jA,jQ,f10];refine(PM G k (by omega) H0).use ?_;simp -implicitDefEqProofs only[vQ,jI,jK,BD,↓reduceIte,jA,jQ,f0,f2];refine(AK5 G W.s y (cst k) hy (H8 k) (W.ok oy) (fun _=>LOk.cst W.s.v k)).use hS ?_;rintro t l1 e1 nb1 _ H1 he1 x1 rfl ot hS1 s1 k1;have q9:=W.s.own q9 hd k1;have W1:=W.go he1 x1 s1 k1;have od1:e1=false->LOk l1 d0:=fun q=>(od (he1 q)).go x1
   let K:Wrd->M Wrd:=fun out'=>shS left x y m (k+1) out'
   have hS1:rn ((shI t x (frL left k) (d0.drop 0) 0).bnd fun r=>K ([]++r)) l1 e1=rn TM l e:=hS1;unfold iA;simp -implicitDefEqProofs only[vQ,jI,jK,BD,↓reduceIte,jQ]
   refine GI 2 (fun F H'=>∃d l2 e2 nb2,d.length=16∧rn (K d) l2 e2=rn TM l e∧(e2=false->LOk l2 d)∧Wk bb ba bk rest nb l e H nb2 l2 e2 H'∧isI H' H.length (wI d) ∧
    F 0=.ptr bb 0 0∧F 1=wS x∧F 2=wS y∧F 3=.int .i64 (NW left)∧F 9=.own H.length 0 16∧F 10=.int .i64 (k:Nat)) (fun _ _=>False) ?_ ?_ (fun _ _ q=>q.elim)
   .refine D7 (fun n F H'=>∃i d l2 e2 nb2,n+i=16∧d.length=i∧(e2=false->LOk l2 d)∧(e2=false->e1=false)∧Xt l1 l2∧rn ((shI t x (frL left k) (d0.drop i) i).bnd fun r=>K (d++r)) l2 e2=rn TM l e∧Wk bb ba bk rest nb l e H nb2 l2 e2 H'∧isI H' H.length (wI (d++d0.drop i)) ∧
      F 0=.ptr bb 0 0∧F 1=wS x∧F 2=wS y∧F 3=.int .i64 (NW left)∧F 9=.own H.length 0 16∧F 10=.int .i64 (k:Nat)∧F 11=.int .i64 (t:Nat)∧F 12=.int .i64 (i:Nat)) 16
     ⟨0,[],l1,e1,nb1,rfl,rfl,fun _=>LOk.nil _,id,Xt.rfl' l1,hS1,W1,q9,by simp -implicitDefEqProofs only[AA,↓reduceIte,jA]; exact f0,by simp -implicitDefEqProofs only[AA,↓reduceIte,jA]; exact f1,by simp -implicitDefEqProofs only[AA,↓reduceIte,jA]; exact f2,by simp -implicitDefEqProofs only[AA,↓reduceIte,jA]; exact f3,by simp -implicitDefEqProofs only[AA,↓reduceIte,jA]; exact f9,by simp -implicitDefEqProofs only[AA,↓reduceIte,jA]; exact f10,by simp -implicitDefEqProofs only[AA,↓reduceIte,jA],by simp -implicitDefEqProofs only[AA,↓reduceIte]; rfl⟩ ?_
    clear q9 f0 f1 f2 f3 f9 f10 hS1;rintro n F H2 ⟨i,d,l2,e2,nb2,hn,hdi,od2,he2,x2,hS2,W2,q9,f0,f1,f2,f3,f9,f10,f11,f12⟩;simp -implicitDefEqProofs only[vQ,jI,jK,BD,↓reduceIte,enP,jQ,f12,MN];refine C9 (fun hc=>?_) (fun hc=>?_)
    .have hi:i<16:=by simpa using hc
     have hid:i<d0.length:=by omega
     rw[AIQ t x (frL left k) d0 i hid d K] at hS2;rw[IU hid] at q9;have hl:(d++d0.getD i 0::d0.drop (i+1)).length=16:=by simp [hdi]; omega
     have hg:=q9.ld (i:=i) (by rw[MJ,hl]; exact hi);rw[AAE,QE hdi] at hg;have hb : -16<=NW left*(k:Nat)∧NW left*(k:Nat)<=16:=by unfold NW; cases left<;>simp<;>omega
     have hmul:IntKind.i64.wrap (NW left*((k:Nat):Int))=NW left*((k:Nat):Int):=wrap_i64 (by omega) (by omega);have hsub:IntKind.i64.wrap (((i:Nat):Int)-NW left*((k:Nat):Int))=((i:Nat):Int)-NW left*((k:Nat):Int):=wrap_i64 (by omega) (by omega);have od0:e2=false->d0.getD i 0<l2.length:=fun q=>x2.lt ((od1 (he2 q)).getD hid)
     simp -implicitDefEqProofs only[vQ,jI,jK,CV,BD,LG,UR,↓reduceIte,jA,enP,jQ,f3,f10,f12,hmul,hsub]
     cases hf:frL left k i with
     | some j =>
       obtain⟨hj,hjj⟩:=AN6 hi hf;rw[hf] at hS2;have hxj:j<x.length:=by omega
       have d1:decide (((j:Nat):Int)≥0)=true:=decide_eq_true (by omega);have d2:decide (((j:Nat):Int)<16)=true:=decide_eq_true (by omega);rw[hjj];simp -implicitDefEqProofs only[vQ,jI,jK,CV,BD,↓reduceIte,jA,enP,KT,jQ,d1,d2];simp -implicitDefEqProofs only[vQ,jI,jK,BD,↓reduceIte,jA,enP,jQ,f0,f1,f11,MM H2 hx hj,ML H2 hxj];refine(rand G W2.s t _ (fun q=>x2.lt (ot (he2 q))) (MO (W2.ok ox) hxj)).use hS2 ?_;rintro a l3 e3 nb3 _ H3 he3 x3 rfl oa hS3 s3 k3;have q9:=W2.s.own q9 hl k3;have W3:=W2.go he3 x3 s3 k3;have hix:=q9.ix (n:=16) (i:=i) (kk:=.i64) hi;have hg:=q9.ld (i:=i) (by rw[MJ,hl]; exact hi);rw[AAE,QE hdi] at hg;unfold iA;simp -implicitDefEqProofs only[vQ,jI,jK,BD,↓reduceIte,jA,enP,KT,jQ,f0,f9,f12,hix,hg];refine(ror G s3 _ a (fun q=>x3.lt (od0 (he3 q))) oa).use hS3 ?_;rintro b l4 e4 nb4 _ H4 he4 x4 rfl ob hS4 s4 k4;have q9:=s3.own q9 hl k4;have W4:=W3.go he4 x4 s4 k4;have hix:=q9.ix (n:=16) (i:=i) (kk:=.i64) hi;have hst:=UE q9 (i:=i) (by rw[hl]; exact hi) b;rw[set_mid hdi] at hst;have W5:=W4.st q9 hl (jP _) (.live 1 ((wI ((d++[b])++d0.drop (i+1))).map qencI));unfold iA;simp -implicitDefEqProofs only[vQ,jI,jK,BD,↓reduceIte,jA,enP,KT,jO,jQ,f9,f12,hix,hst,wrap_succ (show i<9223372036854775807 by omega)]
       exact⟨n-1,by omega,i+1,d++[b],l4,e4,nb4,by omega,by simp [hdi],fun q=>((od2 (he3 (he4 q))).go (x3.trans x4)).app (LOk.cons (ob q) (LOk.nil _)),fun q=>he2 (he3 (he4 q)),x2.trans (x3.trans x4),hS4,W5,DX q9,
        by trivial,by trivial,by trivial,by trivial,by trivial,by trivial,by trivial,by trivial⟩
     | none =>
       have hno:=AN7 hf;rw[hf] at hS2;have fin:rn ((shI t x (frL left k) (d0.drop (i+1)) (i+1)).bnd fun r=>K ((d++[d0.getD i 0])++r)) l2 e2=rn TM l e:=hS2;have hap:(d++[d0.getD i 0])++d0.drop (i+1)=d++d0.getD i 0::d0.drop (i+1):=by rw[zJ]; rfl
       have odn:e2=false->LOk l2 (d++[d0.getD i 0]):=fun q=>(od2 q).app (LOk.cons (od0 q) (LOk.nil _))
       rw[<-hap] at q9;generalize ((i:Nat):Int)-NW left*((k:Nat):Int)=z at hno;by_cases h0:z≥0
       .rw[decide_eq_true h0]
        simp -implicitDefEqProofs only[vQ,jI,jK,CV,BD,↓reduceIte,jA,enP,jQ,show decide (z<16)=false from decide_eq_false (by omega)];simp -implicitDefEqProofs only[vQ,jI,jK,BD,↓reduceIte,jA,jQ,f12,wrap_succ (show i<9223372036854775807 by omega)]
        exact⟨n-1,by omega,i+1,d++[d0.getD i 0],l2,e2,nb2,by omega,by simp [hdi],odn,he2,x2,fin,W2,q9,
         by trivial,by trivial,by trivial,by trivial,by trivial,by trivial,by trivial,by trivial⟩
       .rw[decide_eq_false h0]
        simp -implicitDefEqProofs only[vQ,jI,jK,CV,BD,EY,↓reduceIte,jA,enP,jQ,f12,wrap_succ (show i<9223372036854775807 by omega)]
        exact⟨n-1,by omega,i+1,d++[d0.getD i 0],l2,e2,nb2,by omega,by simp [hdi],odn,he2,x2,fin,W2,q9,
         by trivial,by trivial,by trivial,by trivial,by trivial,by trivial,by trivial,by trivial⟩
    .have hi:i=16:=by have:=hc; simp at this; omega
     subst hi;rw[zF (show d0.length<=16 by omega)] at hS2 q9;have hS2:rn (K (d++[])) l2 e2=rn TM l e:=hS2;rw[jD] at hS2 q9;simp -implicitDefEqProofs only[vQ,↓reduceIte,jA];exact⟨d,l2,e2,nb2,hdi,hS2,od2,W2,q9,f0,f1,f2,f3,f9,f10⟩
   .clear q9 f0 f1 f2 f3 f9 f10 hS1
    rintro F H2 ⟨d,l2,e2,nb2,hd2,hS2,od2,W2,q9,f0,f1,f2,f3,f9,f10⟩;simp -implicitDefEqProofs only[vQ,jI,jK,BD,↓reduceIte,jA,enP,jQ,f10,wrap_succ (show k<9223372036854775807 by omega)];exact⟨m,by omega,k+1,d,l2,e2,nb2,by omega,hd2,od2,hS2,W2,q9,by trivial,by trivial,by trivial,by trivial,by trivial,by trivial⟩
  .have hk':k=16:=by have:=hc; simp at this; omega
   obtain rfl:m=0:=by omega
   simp -implicitDefEqProofs only[vQ,↓reduceIte,jA];exact⟨d0,l0,e0,nb0,hd,hS.symm,W,q9,f9⟩
 .rintro F H' ⟨d,l',e',nb',hd,hr,W,q9,f9⟩
  have W2:=W.st q9 hd (jP _) .dead;simp -implicitDefEqProofs only[vQ,jI,jK,BD,↓reduceIte,jQ,f9,UF q9 hd 9];exact⟨d,l',e',nb',hr,W2.x,⟨by trivial,hd⟩,W2.s,W2.k⟩
theorem AK3 (s:RS bb ba bk rest nb l e H)(op:Int)(hop:op=19∨op=20∨op=21)(x y:Wrd)(hx:x.length=16)(hy:y.length=16)(ox:e=false->LOk l x)(oy:e=false->LOk l y):Cr G bb ba bk rest nb 101 [.ptr bb 0 0,.int .i64 op,wS x,wS y] H l e (lgN op x y) vI okN:=by
 refine Cr.of ?_ (fun he=>AZL op s.v (ox he) (oy he)) (fun a l' q=>q);refine acN Tryz.func101 rfl ?_;show awp _ _ _ _ _ (EK _ [.tmp 8] _);simp -implicitDefEqProofs only[vQ,BD,↓reduceIte,jA,enP];refine(AGU G s x hx ox).use (k:=fun s=>(trL y 0).bnd fun t=>if op=19 then KA s t else if op=20 then oOr s t else (LQ s).bnd fun n=>oOr n t) (TOT:=rn (lgN op x y) l e) rfl ?_;rintro a l1 e1 nb1 _ H1 he1 x1 rfl oa hS1 s1 k1;have W1:=(Wk.rfl' s).go he1 x1 s1 k1;simp -implicitDefEqProofs only[vQ,BD,↓reduceIte,jA];refine(AGU G s1 y hy (W1.ok oy)).use hS1 ?_;rintro b l2 e2 nb2 _ H2 he2 x2 rfl ob hS2 s2 k2;have W2:=W1.go he2 x2 s2 k2;have oa2:e2=false->a<l2.length:=fun q=>x2.lt (oa (he2 q))
 rcases hop with rfl|rfl|rfl
 .rw[if_pos rfl] at hS2
  simp -implicitDefEqProofs only[vQ,BD,↓reduceIte,jA,enP,show((19:Int)==19)=true from rfl];refine(rand G s2 a b oa2 ob).use (k:=fun r=>ret r) (TOT:=rn (lgN 19 x y) l e) (by rw[VE]; exact hS2) ?_;rintro r l3 e3 nb3 _ H3 he3 x3 rfl or hS3 s3 k3;have W3:=W2.go he3 x3 s3 k3;simp -implicitDefEqProofs only[vQ,BD,↓reduceIte];exact⟨r,l3,e3,nb3,hS3.symm,W3.x,rfl,W3.s,W3.k⟩
 .rw[if_neg (by decide),if_pos rfl] at hS2
  simp -implicitDefEqProofs only[vQ,BD,↓reduceIte,jA,enP,show((20:Int)==19)=false from rfl,show((20:Int)==21)=false from rfl];refine(ror G s2 a b oa2 ob).use (k:=fun r=>ret r) (TOT:=rn (lgN 20 x y) l e) (by rw[VE]; exact hS2) ?_;rintro r l3 e3 nb3 _ H3 he3 x3 rfl or hS3 s3 k3;have W3:=W2.go he3 x3 s3 k3;simp -implicitDefEqProofs only[vQ,BD,↓reduceIte];exact⟨r,l3,e3,nb3,hS3.symm,W3.x,rfl,W3.s,W3.k⟩
 .rw[if_neg (by decide),if_neg (by decide)] at hS2
  simp -implicitDefEqProofs only[vQ,BD,↓reduceIte,jA,enP,show((21:Int)==19)=false from rfl,show((21:Int)==21)=true from rfl];refine(AEU G s2 a oa2).use hS2 ?_;rintro n l3 e3 nb3 _ H3 he3 x3 rfl on hS3 s3 k3;have W3:=W2.go he3 x3 s3 k3;simp -implicitDefEqProofs only[vQ,BD,↓reduceIte,jA];refine(ror G s3 n b on (fun q=>x3.lt (ob (he3 q)))).use (k:=fun r=>ret r) (TOT:=rn (lgN 21 x y) l e) (by rw[VE]; exact hS3) ?_;rintro r l4 e4 nb4 _ H4 he4 x4 rfl or hS4 s4 k4;have W4:=W3.go he4 x4 s4 k4;simp -implicitDefEqProofs only[vQ,BD,↓reduceIte];exact⟨r,l4,e4,nb4,hS4.symm,W4.x,rfl,W4.s,W4.k⟩
def NE (w:Wrd):List AV:=[wS w]
theorem A3U:JO Tryz.prog 29=some false:=by kernel_rfl
theorem AJC {H:Hp}{m:SM}{ws:List Wrd}{i:Nat}(hi:i<ws.length):J8 1 H (.sl m 1 (ws.map NE)) (.int .i64 (i:Nat))=some (.fptr 1 (ws.map NE) i 0):=by
 simp [J8];omega
theorem AJA {H:Hp}{ws:List Wrd}{i:Nat}(hi:i<ws.length):DF Tryz.prog H 29 (.fptr 1 (ws.map NE) i 0)=some (wS (ws.getD i [])):=by
 rw[FX A3U hi,zM,jX hi]; rfl
def WsOk (l:Dg)(ws:List Wrd):Prop:=∀w∈ws,LOk l w
theorem WsOk.go {l l':Dg}{ws:List Wrd}(h:WsOk l ws)(x:Xt l l'):WsOk l' ws:=fun w hw=>(h w hw).go x
theorem WsOk.at {l:Dg}{ws:List Wrd}(h:WsOk l ws){i:Nat}(hi:i<ws.length):LOk l (ws.getD i []):=by
 rw[zM,jX hi]; exact h _ (zC hi)
theorem XP {ws:List Wrd}(h:∀w∈ws,w.length=16){i:Nat}(hi:i<ws.length):(ws.getD i []).length=16:=by
 rw[zM,jX hi]; exact h _ (zC hi)
theorem ATH {ws:List Wrd}{i:Nat}(hi:i<ws.length):ws.drop i=ws.getD i []::ws.drop (i+1):=by
 rw[zU hi,zM,jX hi]; rfl
theorem AVE (s:RS bb ba bk rest nb l e H)(m:SM)(ws:List Wrd)(hne:0<ws.length)(hlen:ws.length<=1048576)(hw:∀w∈ws,w.length=16)(ow:e=false->WsOk l ws):Cr G bb ba bk rest nb 103 [.ptr bb 0 0,.sl m 1 (ws.map NE)] H l e (insL (ws.getD 0 []) (ws.drop 1) 0) vI okN:=by
 have hx:=XP hw hne;refine Cr.of ?_ (fun he=>AG3 (ws.getD 0 []) hx ws.length (ws.drop 1) l 0 (by simp) s.v ((ow he).at hne) (fun w q=>⟨hw w (List.mem_of_mem_drop q),ow he w (List.mem_of_mem_drop q)⟩) s.v.p0) (fun a l' q=>q.1);generalize hT:insL (ws.getD 0 []) (ws.drop 1) 0=TM;refine acN Tryz.func103 rfl ?_;show awp _ _ _ _ _ (EK _ [.tmp 4] _);simp -implicitDefEqProofs only[vQ,BD,enP];refine GI 0 (fun F H'=>∃t l' e' nb',rn TM l e=rn (ret t) l' e'∧Wk bb ba bk rest nb l e H nb' l' e' H'∧F 5=iA t) (fun _ _=>False) ?_ ?_ (fun _ _ q=>q.elim)
 .refine D7 (fun n F H'=>∃i t l' e' nb',n+i=ws.length+2∧i<=ws.length+1∧rn (insL (ws.getD 0 []) (ws.drop i) t) l' e'=rn TM l e∧(e'=false->t<l'.length)∧Wk bb ba bk rest nb l e H nb' l' e' H'∧F 0=.ptr bb 0 0∧F 1=.sl m 1 (ws.map NE)∧F 5=iA t∧F 6=.int .i64 (i:Nat)) (ws.length+1)
   ⟨1,0,l,e,nb,by omega,by omega,by rw[<-hT],fun _=>s.v.p0,Wk.rfl' s,by simp -implicitDefEqProofs only[vQ,↓reduceIte,jA],by simp -implicitDefEqProofs only[vQ,↓reduceIte,jA],by simp -implicitDefEqProofs only[AA,↓reduceIte,jA]; rfl,by simp -implicitDefEqProofs only[AA,↓reduceIte]; rfl⟩ ?_
  rintro n F H' ⟨i,t,l',e',nb',hn,hib,hS,ht,W,f0,f1,f5,f6⟩;have hc1:decide ((((i+1:Nat)):Int)<(((ws.map NE).length:Nat):Int))=decide (i+1<ws.length):=by rw[jR,decide_eq_decide]; omega
  simp -implicitDefEqProofs only[vQ,BD,↓reduceIte,jA,enP,AR8,f1,f6,wrap_succ (show i<9223372036854775807 by omega),hc1];refine C9 (fun hc=>?_) (fun hc=>?_)
  .have hi:i+1<ws.length:=by simpa using hc
   rw[ATH (show i<ws.length by omega),ATH hi] at hS;have hx0:=ow;have i0:J8 1 H' (.sl m 1 (ws.map NE)) (.int .i64 0)=some (.fptr 1 (ws.map NE) 0 0):=AJC (i:=0) hne;simp -implicitDefEqProofs only[vQ];refine EW (.ones [0,1,2,3,4,5,6,7] (.alt 8 (.ones [9] .done) .non)) (by kernel_rfl) ?_;simp only[DN,IE,jU,jT];simp -implicitDefEqProofs only[vQ,BD,↓reduceIte,jA,jM,enP,OU,f0,f1,f6,i0,AJA hne,AJC (show i<ws.length by omega),AJA (show i<ws.length by omega)];refine⟨(ANE G W.s _ _ hx (XP hw (show i<ws.length by omega)) (fun q=>((ow (W.e q)).go W.x).at hne) (fun q=>((ow (W.e q)).go W.x).at (by omega))).use (k:=fun m=>(LQ m).bnd fun n=>(lsL (ws.getD (i+1) []) (ws.getD 0 []) 0).bnd fun o=>(LQ o).bnd fun q=>(KA n q).bnd fun u=>(oOr t u).bnd fun t'=>insL (ws.getD 0 []) (ws.drop (i+1+1)) t') hS ?_,trivial⟩;rintro a l1 e1 nb1 _ H1 he1 x1 rfl oa hS1 s1 k1;have W1:=W.go he1 x1 s1 k1;simp -implicitDefEqProofs only[vQ,↓reduceIte,jA,f0];refine(AEU G s1 a oa).use hS1 ?_;rintro b l2 e2 nb2 _ H2 he2 x2 rfl ob hS2 s2 k2;have W2:=W1.go he2 x2 s2 k2;have i0:J8 1 H2 (.sl m 1 (ws.map NE)) (.int .i64 0)=some (.fptr 1 (ws.map NE) 0 0):=AJC (i:=0) hne;simp -implicitDefEqProofs only[vQ,BD,↓reduceIte];refine EW (.ones [0,1,2,3,4,5,6,7,8] (.alt 9 (.ones [10] .done) .non)) (by kernel_rfl) ?_;simp only[DN,IE,jU,jT];simp -implicitDefEqProofs only[vQ,BD,↓reduceIte,jA,jM,enP,OU,f0,f1,f6,i0,AJA hne,wrap_succ (show i<9223372036854775807 by omega),AJC hi,AJA hi];refine⟨(ANE G s2 _ _ (XP hw hi) hx (fun q=>((ow (W2.e q)).go W2.x).at hi) (fun q=>((ow (W2.e q)).go W2.x).at hne)).use hS2 ?_,trivial⟩;rintro c l3 e3 nb3 _ H3 he3 x3 rfl oc hS3 s3 k3;have W3:=W2.go he3 x3 s3 k3;simp -implicitDefEqProofs only[vQ,↓reduceIte,jA,f0];refine(AEU G s3 c oc).use hS3 ?_;rintro d l4 e4 nb4 _ H4 he4 x4 rfl od hS4 s4 k4;have W4:=W3.go he4 x4 s4 k4;simp -implicitDefEqProofs only[vQ,BD,↓reduceIte,jA,f0];refine(rand G s4 b d (fun q=>(x3.trans x4).lt (ob (he3 (he4 q)))) od).use hS4 ?_;rintro u l5 e5 nb5 _ H5 he5 x5 rfl ou hS5 s5 k5;have W5:=W4.go he5 x5 s5 k5;simp -implicitDefEqProofs only[vQ,BD,↓reduceIte,jA,f0,f5];refine(ror G s5 t u (fun q=>(x1.trans (x2.trans (x3.trans (x4.trans x5)))).lt (ht (he1 (he2 (he3 (he4 (he5 q))))))) ou).use hS5 ?_;rintro r l6 e6 nb6 _ H6 he6 x6 rfl or hS6 s6 k6;have W6:=W5.go he6 x6 s6 k6;have w2:IntKind.i64.wrap (((i:Nat):Int)+2)=((i+1+1:Nat):Int):=by rw[wrap_i64 (by omega) (by omega)]; omega
   simp -implicitDefEqProofs only[vQ,BD,↓reduceIte,jA,enP,f6,w2];exact⟨n-2,by omega,i+1+1,r,l6,e6,nb6,by omega,by omega,hS6,or,W6,by trivial,by trivial,by trivial,by trivial⟩
  .have hi:¬i+1<ws.length:=by simpa using hc
   have hS:rn (ret t) l' e'=rn TM l e:=by
    rw[<-hS];rcases jY i ws.length with q|q
    .rw[ATH q,zF (by omega)]; rfl
    .rw[zF q]; rfl
   simp -implicitDefEqProofs only[vQ,↓reduceIte,jA];exact⟨t,l',e',nb',hS.symm,W,f5⟩
 .rintro F H' ⟨t,l',e',nb',hr,W,f5⟩
  simp -implicitDefEqProofs only[vQ,BD,↓reduceIte,f5];exact⟨t,l',e',nb',hr,W.x,rfl,W.s,W.k⟩
end
structure RPk (p:Pr) (lvs:List Int) (lm:SM) (rest:List AV):Prop where
 e:rest=EE p++[.sl lm 1 (lvs.map qencI)]
 ok:∀(i:Nat) (hi:i<p.vars.length),VrOk p.vars[i] (lvs.getD i 0)
 ln:lvs.length=p.vars.length
theorem AN8 {x:ByteArray}:∀ {l:List Vr} {i:Nat},fnm x l=some i->(∃h:i<l.length,(l[i].name.toList==x.toList)=true)∧∀(j:Nat) (h:j<l.length),j<i->(l[j].name.toList==x.toList)=false
 | [],i,h=>by cases h
 | v::r,i,h=>by
   unfold fnm at h;by_cases hv:JX x v=true
   .rw[if_pos hv] at h
    cases h;exact⟨⟨by simp,hv⟩,fun j _ hj=>by omega⟩
   .rw[if_neg hv] at h
    cases hr:fnm x r with
    | none=>rw[hr] at h; cases h
    | some k =>
      rw[hr] at h;cases h;obtain⟨⟨h1,h2⟩,h3⟩:=AN8 hr;refine⟨⟨by simp; omega,by simpa using h2⟩,fun j hj hji=>?_⟩;rcases j with _|j
      .show JX x v=false
       simpa using hv
      .have hji':j<k:=by have h:j+1<k+1:=hji; omega
       have:=h3 j (by simpa using hj) hji';simpa using this
section
variable (G:Nat->AV) {bb ba bk:Nat} {rest:List AV} {nb:Nat} {l:Dg} {e:Bool} {H:Hp} {p:Pr} {lvs:List Int} {lm:SM}
theorem Cr.vs {f:FuncId}{args:List AV}{m:M Wrd}{V:Dg->(Nat->Bool)->Nat}(c:Cr0 G bb ba bk rest nb f args H l e m vW)(sp:e=false->Vs l m V):Cr G bb ba bk rest nb f args H l e m vW oW :=
 Cr.of (R:=fun r l'=>(r.length=16∧LOk l' r)∧Pw l' fun L=>∀β,val L β r=V L β) c sp fun _ _ q=>q.1.2
theorem RPk.l1 (k:RPk p lvs lm rest)(s:RS bb ba bk rest nb l e H):DF Tryz.prog H 22 (.ptr bb 0 3)=some (.sl p.vm 4 (p.vars.map FI)):=by
 rw[DJ TU s.b rfl,k.e]; rfl
theorem RPk.l6 (k:RPk p lvs lm rest)(s:RS bb ba bk rest nb l e H):DF Tryz.prog H 29 (.ptr bb 0 8)=some (.sl lm 1 (lvs.map qencI)):=by
 rw[DJ AYN s.b rfl,k.e]; rfl
theorem A4V (s:RS bb ba bk rest nb l e H)(lv:Nat)(h:lv<20):Cr G bb ba bk rest nb 151 [.ptr bb 0 0,iA lv,iA 0,iA 1] H l e (mk lv 0 1) vI okN :=
 Cr.of (AI6 G s lv 0 1 fun _=>⟨h,s.v.p0,s.v.p1,by rw[s.v.n0]; exact h,by rw[s.v.n1]; exact h⟩) (fun _=>AME s.v h) (fun _ _ q=>q.1)
set_option maxHeartbeats 2000000 in
theorem A4P (s:RS bb ba bk rest nb l e H)(hP:RPk p lvs lm rest)(x:ByteArray)(i:Nat)(hi:fnm x p.vars=some i)(hil:i<p.vars.length)(hpl:p.vars.length<=1048576):Cr G bb ba bk rest nb 90 [.ptr bb 0 0,.str x] H l e (AAF p.vars[i] (lvs.getD i 0)) vW oW:=by
 have hok:=hP.ok i hil;refine Cr.vs G ?_ (fun _=>AM2 s.v p.vars[i] (lvs.getD i 0) hok);have hiv:i<lvs.length:=by rw[hP.ln]; exact hil
 have llv:∀H:Hp,DF Tryz.prog H 3 (.fptr 1 (lvs.map qencI) i 0)=some (.int .i64 (lvs.getD i 0)):=fun H=>by
  rw[FX ag3 hiv,zM,jX hiv]; rfl
 obtain⟨⟨_,hnm⟩,hbf⟩:=AN8 hi;generalize lvs.getD i 0=lv at hok llv|-;have lvv:∀H:Hp,DF Tryz.prog H 65 (.fptr 4 (p.vars.map FI) i 0)=some (.agg (FI p.vars[i])):=fun H=>ldV hil
 have lnm:∀(H:Hp) (j:Nat) (hj:j<p.vars.length),DF Tryz.prog H 9 (.fptr 4 (p.vars.map FI) j 0)=some (.str p.vars[j].name):=fun H j hj=>by rw[FX ag9 hj]; rfl
 generalize hT:AAF p.vars[i] lv=TM;refine IV (H:=hint [] [(61,[7])]) (enM G) Tryz.func90 rfl (by kernel_rfl) (by kernel_rfl) (jH (by kernel_rfl)) ?_;show awp _ _ _ _ _ (EK _ [.tmp 4] _);simp -implicitDefEqProofs only[vQ,jI,jK,BD,↓reduceIte,enP,jQ];refine GI 0 (fun F H'=>H'=H∧F 0=.ptr bb 0 0∧F 5=.int .i64 (i:Nat)) (fun _ _=>False) ?_ ?_ (fun _ _ q=>q.elim)
 .refine D7 (fun m F H'=>∃j,m+j=i∧H'=H∧F 0=.ptr bb 0 0∧F 1=.str x∧F 5=.int .i64 (j:Nat)) i ⟨0,rfl,rfl,by simp -implicitDefEqProofs only[vQ,↓reduceIte,jA],by simp -implicitDefEqProofs only[vQ,↓reduceIte,jA],by simp -implicitDefEqProofs only[AA,↓reduceIte]; rfl⟩ ?_
  rintro m F H' ⟨j,hm,rfl,f0,f1,f5⟩;have hj:j<p.vars.length:=by omega
  simp -implicitDefEqProofs only[vQ,jI,jK,BD,VU,↓reduceIte,jA,enP,QP,KC,O1,AS4,jQ,f0,f1,f5,hP.l1 s,EZ hj,lnm H' j hj,VU];rcases jY j i with q|q
  .rw[hbf j hj q]
   simp -implicitDefEqProofs only[vQ,jI,jK,BD,↓reduceIte,jA,enP,jQ,f5,wrap_succ (show j<9223372036854775807 by omega)];exact⟨m-1,by omega,j+1,by omega,trivial,by trivial,by trivial,by trivial⟩
  .obtain rfl:j=i:=by omega
   rw[hnm];simp -implicitDefEqProofs only[vQ,↓reduceIte,jA,Bool.not_true];exact⟨trivial,f0,f5⟩
 rintro F H' ⟨rfl,f0,f5⟩;generalize p.vars[i]=v at hok lvv hT;simp -implicitDefEqProofs only[vQ,jI,jK,BD,↓reduceIte,jA,enP,QP,KC,NC,AS4,jO,jQ,f0,f5,hP.l1 s,EZ hil,lvv,Bd.al61,Bd.st61];have q6:(H'++[ABlk.live 4 [FI v]])[H'.length]?=some (.live 4 [FI v]):=CU _ _;have W0:=(Wk.rfl' s).app (.live 4 [FI v]);have lB:H'.length<(H'++[ABlk.live 4 [FI v]]).length:=by simp
 generalize H'++[ABlk.live 4 [FI v]]=B at q6 W0 lB|-;have g1:∀ {A:Hp},A[H'.length]?=some (.live 4 [FI v])->DF Tryz.prog A 3 (.ptr H'.length 0 1)=some (.int .i64 v.width):=fun q=>by rw[DJ ag3 q rfl]; rfl
 have g2:DF Tryz.prog B 3 (.ptr H'.length 0 2)=some (.int .i64 v.mode):=by rw[DJ ag3 q6 rfl]; rfl
 have g3:DF Tryz.prog B 3 (.ptr H'.length 0 3)=some (.int .i64 v.value):=by rw[DJ ag3 q6 rfl]; rfl
 simp -implicitDefEqProofs only[vQ,jI,jK,BD,↓reduceIte,enP,jQ,g2];refine C9 (fun hc=>?_) (fun hc=>?_)
 .have hm:v.mode=0:=by simpa using hc
  obtain⟨z0,z1⟩:=hok.st hm;obtain⟨z,hz⟩:=qM z0;unfold AAF at hT;rw[if_pos hm] at hT;rw[hz] at g3 z1;simp -implicitDefEqProofs only[vQ,jI,jK,BD,↓reduceIte,jA,enP,VN,jQ,g3];refine(PM G z (by omega) B).use ?_;simp -implicitDefEqProofs only[vQ,jI,jK,BD,↓reduceIte,jQ];exact⟨cst z,l,e,nb,by rw[<-hT,hz]; rfl,W0.x,⟨by trivial,H8 z⟩,W0.s,W0.k⟩
 .have hm:¬v.mode=0:=by simpa using hc
  obtain⟨w1,w8,lv0,lv20⟩:=hok.rn hm;obtain⟨w,hw⟩:=qM (show 0<=v.width by omega);obtain⟨u,hu⟩:=qM lv0;subst hu;rw[hw] at g1 w1 w8 lv20;unfold AAF at hT;rw[if_neg hm,hw,show((u:Int)+(w:Int)).toNat=u+w by omega,Int.toNat_natCast] at hT
  let K:Wrd->M Wrd:=fun d=>ret (d++jJ (16-w) 0)
  have hS:rn ((vbL (u+w) w 0).bnd fun r=>K ([]++r)) l e=rn TM l e:=by rw[<-hT]; rfl
  simp -implicitDefEqProofs only[vQ,jI,jK,BD,↓reduceIte,jQ];refine ACalls.mono (show ACalls (En G) 89 [.int .i64 0] B _ from QY G 0 (by omega) B) ?_;rintro _ _ ⟨rfl,rfl⟩;rw[AWT];have q9:isI (B++[.live 1 ((wI (jJ 16 0)).map qencI)]) B.length (wI (jJ 16 0)):=CU _ _;have WC:=W0.app (.live 1 ((wI (jJ 16 0)).map qencI));have q6:(B++[.live 1 ((wI (jJ 16 0)).map qencI)])[H'.length]?=some (.live 4 [FI v]):=BO q6;generalize B++[.live 1 ((wI (jJ 16 0)).map qencI)]=C at q9 WC q6|-;simp -implicitDefEqProofs only[vQ,jI,jK,BD,↓reduceIte,jQ];refine GI 2 (fun F A=>∃d l' e' nb',d.length=16∧rn TM l e=rn (ret d) l' e'∧Wk bb ba bk rest nb l e H' nb' l' e' A∧isI A B.length (wI d)∧F 7=.own B.length 0 16) (fun _ _=>False) ?_ ?_ (fun _ _ q=>q.elim)
  .refine D7 (fun n F A=>∃k d l' e' nb',n+k=w∧d.length=k∧rn ((vbL (u+w) n k).bnd fun r=>K (d++r)) l' e'=rn TM l e∧Wk bb ba bk rest nb l e H' nb' l' e' A∧A[H'.length]?=some (.live 4 [FI v])∧isI A B.length (wI (d++jJ (16-k) 0)) ∧
    F 0=.ptr bb 0 0∧F 5=.int .i64 (i:Nat)∧F 6=.ptr H'.length 0 0∧F 7=.own B.length 0 16∧F 8=.int .i64 (k:Nat)) w
    ⟨0,[],l,e,nb,by omega,rfl,hS,WC,q6,q9,by simp -implicitDefEqProofs only[AA,↓reduceIte,jA]; exact f0,by simp -implicitDefEqProofs only[AA,↓reduceIte,jA]; exact f5,by simp -implicitDefEqProofs only[AA,↓reduceIte,jA],by simp -implicitDefEqProofs only[AA,↓reduceIte,jA],by simp -implicitDefEqProofs only[AA,↓reduceIte]; rfl⟩ ?_
   clear q6 q9 WC f0 f5 hS;rintro n F A ⟨k,d,l0,e0,nb0,hn,hd,hS,W,q6,q9,f0,f5,f6,f7,f8⟩;have ec:decide (((k:Nat):Int)<(w:Nat))=decide (k<w):=by rw[decide_eq_decide]; omega
   simp -implicitDefEqProofs only[vQ,jI,jK,BD,↓reduceIte,jA,enP,LV,jQ,f6,f8,g1 q6,ec];refine C9 (fun hc=>?_) (fun hc=>?_)
   .have hk':k<w:=by simpa using hc
    obtain⟨n,rfl⟩:∃n',n=n'+1:=⟨n-1,by omega⟩
    rw[AM1] at hS;have z1:IntKind.i64.wrap ((u:Int)+(w:Int))=((u+w:Nat):Int):=by rw[wrap_i64 (by omega) (by omega)]; omega
    have z2:IntKind.i64.wrap (((u+w:Nat):Int)-1)=((u+w-1:Nat):Int):=by rw[wrap_i64 (by omega) (by omega)]; omega
    have z3:IntKind.i64.wrap (((u+w-1:Nat):Int)-(k:Nat))=((u+w-1-k:Nat):Int):=by rw[wrap_i64 (by omega) (by omega)]; omega
    simp -implicitDefEqProofs only[vQ,f8];refine EW (.ones [0,1,2,3,4,5,6,7,8,9,10,11,12,13,14,15] (.alt 16 (.ones [17,18] .done) .non)) (by kernel_rfl) ?_;simp only[DN,IE,jU,jT];simp -implicitDefEqProofs only[vQ,jI,jK,BD,LG,↓reduceIte,jA,jM,enP,KT,LV,AZX,jQ,f0,f5,f6,f7,f8,hP.l6 W.s,EZ hiv,llv,g1 q6,z1,z2,z3];refine⟨(A4V G W.s (u+w-1-k) (by omega)).use hS ?_,trivial⟩;rintro a l1 e1 nb1 _ A1 he1 x1 rfl oa hS1 s1 k1;have hl:=W.s.lt
    have q6:A1[H'.length]?=some (.live 4 [FI v]):=k1.keep _ _ q6 (by have:=W.k.len; have:=s.lt; simp; omega) (by
     rcases W.k.nn with q|q
     .have:=s.lt; omega
     .intro h; rw[h,W.s.n] at q6; cases q6)
    have q9:=W.s.own q9 (IL hd (by omega)) k1;have W1:=W.go he1 x1 s1 k1;have hst:=UE q9 (i:=k) (by rw[IL hd (by omega)]; omega) a;rw[MX hd (by omega)] at hst;have hix:=q9.ix (n:=16) (i:=k) (kk:=.i64) (by omega);have W2:=W1.st q9 (IL hd (by omega)) (by omega) (.live 1 ((wI ((d++[a])++jJ (16-(k+1)) 0)).map qencI));unfold iA;simp -implicitDefEqProofs only[vQ,jI,jK,BD,↓reduceIte,jA,enP,jO,jQ,f7,f8,hix,hst,wrap_succ (show k<9223372036854775807 by omega)];exact⟨n,by omega,k+1,d++[a],l1,e1,nb1,by omega,by simp [hd],hS1,W2,by rw[jS (by omega)]; exact q6,DX q9,by trivial,by trivial,by trivial,by trivial,by trivial⟩
   .have hk':k=w:=by have hc':¬k<w:=fun q=>by rw[decide_eq_true q] at hc; cases hc
                     omega
    subst hk';have:n=0:=by omega
    subst this;have hS:rn (ret (d++jJ (16-k) 0)) l0 e0=rn TM l e:=by rw[<-hS]; show rn (K d) l0 e0=rn (K (d++[])) l0 e0; rw[jD]
    simp -implicitDefEqProofs only[vQ,↓reduceIte,jA];exact⟨_,l0,e0,nb0,by simp; omega,hS.symm,W,q9,f7⟩
  .rintro F A ⟨d,l',e',nb',hd,hr,W,q9,f7⟩
   have W2:=W.st q9 hd (by omega) .dead;simp -implicitDefEqProofs only[vQ,jI,jK,BD,↓reduceIte,jQ,f7,UF q9 hd 7];exact⟨d,l',e',nb',hr,W2.x,⟨by trivial,hd⟩,W2.s,W2.k⟩
end
def lw (base:Nat)(H:Hp)(ws:List Wrd)(v:AV):Prop:=(ws=[]∧∃k,v=.sl .nil k [])∨(ws≠[]∧∃b,v=.own b 0 ws.length∧base<=b∧H[b]?=some (.live 1 (ws.map NE)))
theorem bsW (h:Hp)(w:Wrd):GG Tryz.prog false h 25 1 [(0,wS w)]=some (.sl .full 1 [NE w],h):=by kernel_rfl
section
variable {bb ba bk:Nat} {rest:List AV} {nb:Nat} {l:Dg} {e:Bool} {H:Hp} {nb':Nat} {l':Dg} {e':Bool} {H':Hp}
theorem RS.nwL (s:RS bb ba bk rest nb l e H){b:Nat}{ws:List Wrd}(hb:H[b]?=some (.live 1 (ws.map NE))):b≠bb∧b≠ba∧b≠bk∧b≠nb:=by
 obtain⟨A,ha,hA,_⟩:=s.a;obtain⟨K,hk,_⟩:=s.k;have ha:H[ba]?=some (.live 1 ((wI A).map qencI)):=ha;refine⟨fun e=>?_,fun e=>?_,fun e=>?_,fun e=>?_⟩
 .rw[e,s.b] at hb; cases hb
 .rw[e,ha] at hb
  have he:(wI A).map qencI=ws.map NE:=by injection hb with h1; injection h1
  rcases A with _|⟨a,A⟩
  .cases hA
  .rcases ws with _|⟨w,ws⟩
   .cases he
   .have h1:qencI ((a:Nat):Int)=NE w:=by injection he
    cases h1
 .rw[e,hk] at hb; cases hb
 .rw[e,s.n] at hb; cases hb
theorem RS.nw4 (s:RS bb ba bk rest nb l e H){b:Nat}{y:List (List AV)}(hb:H[b]?=some (.live 4 y)):b≠bb∧b≠ba∧b≠bk∧b≠nb:=by
 obtain⟨A,ha,hA,_⟩:=s.a;obtain⟨K,hk,_⟩:=s.k;have ha:H[ba]?=some (.live 1 ((wI A).map qencI)):=ha;refine⟨fun e=>?_,fun e=>?_,fun e=>?_,fun e=>?_⟩
 .rw[e,s.b] at hb; cases hb
 .rw[e,ha] at hb; cases hb
 .rw[e,hk] at hb; cases hb
 .rw[e,s.n] at hb; cases hb
theorem RS.k4 (s:RS bb ba bk rest nb l e H){b:Nat}{y:List (List AV)}(hb:H[b]?=some (.live 4 y))(k:Kd [bb,ba,bk] nb nb' H H'):H'[b]?=some (.live 4 y):=by
 obtain⟨n1,n2,n3,n4⟩:=s.nw4 hb;exact k.keep b _ hb (by simp; exact⟨n1,n2,n3⟩) n4
theorem lw.go {base:Nat}{ws:List Wrd}{v:AV}(h:lw base H ws v)(s:RS bb ba bk rest nb l e H)(k:Kd [bb,ba,bk] nb nb' H H'):lw base H' ws v:=by
 rcases h with h|⟨hn,b,h1,h2,h3⟩
 .exact .inl h
 .obtain⟨n1,n2,n3,n4⟩:=s.nwL h3
  exact .inr ⟨hn,b,h1,h2,k.keep b _ h3 (by simp; exact⟨n1,n2,n3⟩) n4⟩
theorem Wk.stL (w:Wk bb ba bk rest nb l e H nb' l' e' H'){b:Nat}{ws:List Wrd}(hb:H'[b]?=some (.live 1 (ws.map NE)))(hl:H.length<=b)(y:ABlk):Wk bb ba bk rest nb l e H nb' l' e' (H'.set b y):=by
 obtain⟨n1,n2,n3,n4⟩:=w.s.nwL hb;exact⟨w.s.set n1 n2 n3 n4 y,w.k.setS (.inr hl) y,w.x,w.e⟩
theorem lw.app {base:Nat}{ws:List Wrd}{v:AV}(h:lw base H' ws v)(hbl:base<=H'.length)(hb:H.length<=base)(W:Wk bb ba bk rest nb l e H nb' l' e' H')(hl:ws.length<=1048576)(w:Wrd) :
  ∃v' H2,IP Tryz.prog true H' 25 25 v (.sl .full 1 [NE w])=some (v',H2)∧lw base H2 (ws++[w]) v'∧Wk bb ba bk rest nb l e H nb' l' e' H2∧base<=H2.length∧∀(c:Nat) (y:List (List AV)),H'[c]?=some (.live 4 y)->H2[c]?=some (.live 4 y):=by
 rcases h with⟨rfl,k,rfl⟩|⟨hn,b,rfl,h2,h3⟩
 .refine⟨_,_,Z4 A0W AY3 A0N A2Z (KJ H' .full 1 [NE w]) (by simp) (OX (by simp) (by omega)),.inr ⟨by simp,H'.length,rfl,hbl,CU _ _⟩,W.app _,by simp; omega,fun c y hc=>BO hc⟩
 .have hc:KQ H' (.own b 0 ws.length)=some (1,ws.map NE):=by
   rw[OQ h3 (by simp),qL,zH (by simp)]
  refine⟨_,_,UW A0W AY3 A0N A2Z hc (KJ H' .full 1 [NE w]) (by simp) (by unfold room; simp; omega),.inr ⟨by simp,H'.length,by simp,hbl,?_⟩,(W.stL h3 (by omega) .dead).app _,by simp; omega,fun c y hc=>BO ?_⟩
  .rw[show H'.length=(H'.set b .dead).length by simp,CU,List.map_append]; rfl
  .rw[jS (fun q=>by rw[q,hc] at h3; cases h3)]; exact hc
end
theorem WsOk.add {l l':Dg}{ws:List Wrd}{w:Wrd}(h:WsOk l ws)(x:Xt l l')(hw:LOk l' w):WsOk l' (ws++[w]):=fun a ha=>by
 rcases qE.1 ha with q|q
 .exact(h a q).go x
 .rw[wB] at q; rw[q]; exact hw
theorem A47:∀ws:List Wrd,PW (ws.map NE)=true:=fun ws=>by
 unfold PW;rw[List.all_map,List.all_eq_true]; intro x _; rfl
def WEnd (bb ba bk:Nat)(rest:List AV)(nb:Nat)(l:Dg)(e:Bool)(H:Hp)(TM:M Wrd)(v:AV)(H':Hp):Prop:=∃a l' e' nb',rn TM l e=rn (ret a) l' e'∧Xt l l'∧vW a v∧RS bb ba bk rest nb' l' e' H'∧Kd [bb,ba,bk] nb nb' H H'
theorem WEnd.of {bb ba bk:Nat}{rest:List AV}{nb:Nat}{l:Dg}{e:Bool}{H:Hp}{TM:M Wrd}{nb':Nat}{l':Dg}{e':Bool}{H':Hp}{a:Wrd}(W:Wk bb ba bk rest nb l e H nb' l' e' H')(hS:rn (ret a) l' e'=rn TM l e)(ha:a.length=16):WEnd bb ba bk rest nb l e H TM (wS a) H':=⟨a,l',e',nb',hS.symm,W.x,⟨rfl,ha⟩,W.s,W.k⟩
theorem Wk.fin {G:Nat->AV}{bb ba bk:Nat}{rest:List AV}{nb nb0:Nat}{l l0:Dg}{e e0:Bool}{H H0:Hp}{TM m:M Wrd}{f:FuncId}{args:List AV}(W:Wk bb ba bk rest nb l e H nb0 l0 e0 H0)(c:Cr G bb ba bk rest nb0 f args H0 l0 e0 m vW oW)(hS:rn m l0 e0=rn TM l e)
  {K:AV->Hp->Prop} (hK:∀v H',WEnd bb ba bk rest nb l e H TM v H'->K v H'):ACalls (En G) f args H0 K:=c.use (k:=fun r=>ret r) (TOT:=rn TM l e) (by rw[VE]; exact hS) (by
 rintro r l1 e1 nb1 _ H1 he1 x1 ⟨rfl,hr1⟩ _ hS1 s1 k1
 exact hK _ _ (WEnd.of (W.go he1 x1 s1 k1) hS1 hr1))
theorem Wk.finS {G:Nat->AV}{bb ba bk:Nat}{rest:List AV}{nb nb0:Nat}{l l0:Dg}{e e0:Bool}{H H0:Hp}{TM:M Wrd}{m:M Nat}{f:FuncId}{args:List AV}(W:Wk bb ba bk rest nb l e H nb0 l0 e0 H0)(c:Cr G bb ba bk rest nb0 f args H0 l0 e0 m vI okN)(hS:rn (m.bnd fun r=>ret (sgl r)) l0 e0=rn TM l e)
  {K:AV->Hp->Prop} (hK:∀r H',WEnd bb ba bk rest nb l e H TM (wS (sgl r)) H'->K (iA r) H'):ACalls (En G) f args H0 K:=c.use hS (by
 rintro r l1 e1 nb1 _ H1 he1 x1 rfl _ hS1 s1 k1
 exact hK _ _ (WEnd.of (W.go he1 x1 s1 k1) hS1 (JQ r)))
theorem AX2 {H:Hp}{b:Nat}{e:Ex}(hb:H[b]?=some (.live 4 [EF e])):DF Tryz.prog H 23 (.ptr b 0 3)=some (.sl e.m 4 (e.args.map EF)):=by rw[DJ VX hb (row:=EF e) rfl,VQ]
theorem A1X {H:Hp}{b:Nat}{e:Ex}(hb:H[b]?=some (.live 4 [EF e])):DF Tryz.prog H 3 (.ptr b 0 0)=some (.int .i64 e.op):=by rw[DJ ag3 hb (row:=EF e) rfl,J9]
theorem A46 {H:Hp}{b:Nat}{e:Ex}(hb:H[b]?=some (.live 4 [EF e])):DF Tryz.prog H 3 (.ptr b 0 1)=some (.int .i64 e.n):=by rw[DJ ag3 hb (row:=EF e) rfl,ZQ]
theorem A45 {H:Hp}{b:Nat}{e:Ex}(hb:H[b]?=some (.live 4 [EF e])):DF Tryz.prog H 9 (.ptr b 0 2)=some (.str e.name):=by rw[DJ ag9 hb (row:=EF e) rfl,PH]
section
variable (G:Nat->AV) {bb ba bk:Nat} {rest:List AV} {nb:Nat} {l:Dg} {e:Bool} {H:Hp} {p:Pr} {lvs:List Int} {lm:SM}
theorem D6 (l:List Nat)(a b:Nat)(s t:List Nat)(n:Nat):(hint l [(a,s),(b,t)]).fz n=if(a==n)=true then s else if(b==n)=true then t else []:=by
 unfold hint;simp only[List.find?];cases a==n<;>cases b==n<;>rfl
theorem ACA {H':Hp}{K:AV->Hp->Prop}(t:Nat)(h:K (wS (sgl t)) H'):ACalls (En G) 91 [iA t] H' K:=(single_ref G t H').use h
end
section
variable (G:Nat->AV) {bb ba bk:Nat} {rest:List AV} {p:Pr} {lvs:List Int} {lm:SM}
set_option maxHeartbeats 4000000 in
theorem A1A (hP:RPk p lvs lm rest)(hpl:p.vars.length<=1048576)(x:Ex):EOk p x->(pre x).length<=1048576->∀(nb:Nat) (l:Dg) (e:Bool) (H:Hp),RS bb ba bk rest nb l e H->Cr G bb ba bk rest nb 44 [.ptr bb 0 0,.agg (EF x)] H l e (RV p lvs x) vW oW:=by
 induction x using Ex.induct with|h x ih=>?_
 intro he hsz nb l e H s;refine Cr.of ?_ (fun _=>TY hP.ok x he l s.v) (fun _ _ q=>q.1.2);have hpl2:=congrArg List.length (pre_eq x);rw[List.length_cons] at hpl2;have hal:x.args.length<=1048576:=by have:=VG x.args; omega
 rw[AGI];generalize hT:((SC p lvs x.args).bnd fun ws=>wOp p lvs x.op x.n x.name ws)=TM;refine IV (H:=hint [] [(34,[5]),(232,[12])]) (enM G) Tryz.func44 rfl (by kernel_rfl) (by kernel_rfl) (jH (by kernel_rfl)) ?_;show awp _ _ _ _ _ (EK _ [.tmp 4] (WEnd bb ba bk rest nb l e H TM));have qx:=CU H (ABlk.live 4 [EF x]);have WX:=(Wk.rfl' s).app (.live 4 [EF x]);have hXl:(H++[ABlk.live 4 [EF x]]).length=H.length+1:=by simp
 have bxX:MG H (.agg (EF x))=some (.ptr H.length 0 0,H++[.live 4 [EF x]]):=bxE H x;simp -implicitDefEqProofs only[vQ,jI,jK,BD,↓reduceIte,enP,jQ,D6,bxE];generalize H++[ABlk.live 4 [EF x]]=X at qx WX hXl|-
 let K:List Wrd->M Wrd:=fun ws=>wOp p lvs x.op x.n x.name ws
 refine GI 0 (fun F H'=>∃ws l' e' nb',ws.length=x.args.length∧(∀w∈ws,w.length=16)∧(e'=false->WsOk l' ws)∧rn (K ws) l' e'=rn TM l e∧Wk bb ba bk rest nb l e H nb' l' e' H'∧H'[H.length]?=some (.live 4 [EF x])∧lw (H.length+1) H' ws (F 5)∧F 0=.ptr bb 0 0∧F 3=.ptr H.length 0 0) (fun _ _=>False) ?_ ?_ (fun _ _ q=>q.elim)
 .refine D7 (fun n F H'=>∃j ws l' e' nb',n+j=x.args.length∧ws.length=j∧(∀w∈ws,w.length=16)∧(e'=false->WsOk l' ws)∧rn ((SC p lvs (x.args.drop j)).bnd fun r=>K (ws++r)) l' e'=rn TM l e∧Wk bb ba bk rest nb l e H nb' l' e' H'∧H'[H.length]?=some (.live 4 [EF x])∧H.length+1<=H'.length∧lw (H.length+1) H' ws (F 5)∧F 0=.ptr bb 0 0∧F 3=.ptr H.length 0 0∧F 6=.int .i64 (j:Nat)) x.args.length
   ⟨0,[],l,e,nb,by omega,rfl,fun _ q=>(by cases q),fun _ _ q=>(by cases q),by rw[<-hT]; rfl,WX,qx,by omega,.inl ⟨rfl,0,by simp -implicitDefEqProofs only[AA,↓reduceIte,jA,D6]⟩,by simp -implicitDefEqProofs only[vQ,↓reduceIte,jA,D6],by simp -implicitDefEqProofs only[AA,↓reduceIte,jA,D6],by simp -implicitDefEqProofs only[AA,↓reduceIte,D6]; rfl⟩ ?_
  clear qx WX hXl;rintro n F H0 ⟨j,ws,l0,e0,nb0,hn,hwl,hw,how,hS,W,qx,hXl,hlw,f0,f3,f6⟩;have ec:decide (((j:Nat):Int)<(((x.args.map EF).length:Nat):Int))=decide (j<x.args.length):=by rw[jR,decide_eq_decide]; omega
  simp -implicitDefEqProofs only[vQ,jI,jK,BD,↓reduceIte,jA,enP,WT,ND,jQ,D6,f3,f6,AX2 qx,ec];refine C9 (fun hc=>?_) (fun hc=>?_)
  .have hj:j<x.args.length:=by simpa using hc
   have hmem:x.args[j]∈x.args:=zC hj;rw[zU hj,XE,G9] at hS;simp -implicitDefEqProofs only[vQ,jI,jK,BD,↓reduceIte,jA,enP,AAO,ND,jQ,D6,f0,f3,f6,AX2 qx,EZ hj,GM YB RX IZ hj];refine(ih x.args[j] hmem (he.arg hmem) (by have:=QA hmem; omega) nb0 l0 e0 H0 W.s).use hS ?_;rintro w l1 e1 nb1 _ H1 he1 x1 ⟨rfl,hw1⟩ ow hS1 s1 k1;have hlw:=hlw.go W.s k1;have qx:=W.s.k4 qx k1;have W1:=W.go he1 x1 s1 k1;rw[G9] at hS1
   have hS2:rn ((SC p lvs (x.args.drop (j+1))).bnd fun r=>K ((ws++[w])++r)) l1 e1=rn TM l e:=by
    rw[<-hS1];refine congrArg (fun m=>rn m l1 e1) (congrArg (M.bnd _) (funext fun r=>?_));show K ((ws++[w])++r)=K (ws++(w::r));rw[zJ]; rfl
   obtain⟨v2,H2,ha,hlw2,W2,hb2,h4⟩:=hlw.app (by have:=k1.len; omega) (by omega) W1 (by omega) w;simp -implicitDefEqProofs only[vQ,jI,jK,BD,MC,↓reduceIte,jA,enP,jQ,D6,bsW,ha,f6,wrap_succ (show j<9223372036854775807 by omega)];refine⟨n-1,by omega,j+1,ws++[w],l1,e1,nb1,by omega,by simp [hwl],fun a q=>?_,fun q=>(how (he1 q)).add x1 (ow q),hS2,W2,h4 _ _ qx,hb2,by first|exact hlw2|(simp -implicitDefEqProofs only[D6]; exact hlw2),by trivial,by trivial,by trivial⟩;rcases qE.1 q with q|q
   .exact hw a q
   .rw[wB] at q; rw[q]; exact hw1
  .have hj:¬j<x.args.length:=by simpa using hc
   have hj:j=x.args.length:=by omega
   subst hj;rw[zF (jP _),AAC] at hS;have hS:rn (K (ws++[])) l0 e0=rn TM l e:=hS;rw[jD] at hS;simp -implicitDefEqProofs only[vQ,↓reduceIte,jA,D6];exact⟨ws,l0,e0,nb0,hwl,hw,how,hS,W,qx,hlw,f0,f3⟩
 clear qx WX hXl;rintro F H0 ⟨ws,l0,e0,nb0,hwl,hw,how,hS,W,qx,hlw,f0,f3⟩;have hS:rn (wOp p lvs x.op x.n x.name ws) l0 e0=rn TM l e:=hS;obtain⟨o1,_,oo⟩:=ADB he.self.nd;have hr:=ADA he.self.nd;obtain⟨n3,n24⟩:=he.self.na;have hops:=AAL he.self.nd;rcases hlw with⟨rfl,kk,f5⟩|⟨hne,b,f5,hbb,hb⟩
 .have h0:x.args.length=0:=by rw[<-hwl]; rfl
  have h12:x.op=1∨x.op=2:=by
   by_cases h1:x.op=1
   .exact .inl h1
   by_cases h2:x.op=2
   .exact .inr h2
   obtain⟨c22,c23,cx⟩:=oo h1 h2 n3 n24;by_cases q:x.op=22
   .have:=c22 q; omega
   by_cases q':x.op=23
   .have:=c23 q'; omega
   .have:=cx q q'; omega
  have l0E:=A1X qx;rcases h12 with hop|hop
  .obtain⟨z0,z1⟩:=o1 hop
   obtain⟨z,hz⟩:=qM z0;rw[hop,hz] at hS;have hS:rn (ret (cst z)) l0 e0=rn TM l e:=hS;have l1E:=A46 qx;rw[hz] at l1E;rw[hop] at l0E;simp -implicitDefEqProofs only[vQ,jI,jK,BD,↓reduceIte,jA,enP,F7,AAS,jQ,D6,f5,AN3 (i:=5) (k:=kk) (m:=.nil) (xs:=[]) (H:=H0),f3,l0E,zG];simp -implicitDefEqProofs only[vQ,jI,jK,BD,↓reduceIte,jQ,D6,f3,l1E];refine(PM G z (by omega) H0).use ?_;simp -implicitDefEqProofs only[vQ,jI,jK,BD,↓reduceIte,jQ,D6];exact WEnd.of W hS (H8 z)
  .obtain⟨i,hi⟩:=he.self.vr hop
   have hil:=AHA hi;rw[hop] at hS l0E
   have hS:rn (AAF p.vars[i] (lvs.getD i 0)) l0 e0=rn TM l e:=by
    rw[<-hS];unfold wOp; rw[if_neg (by decide),if_pos rfl,hi]; simp only[jX hil]
   simp -implicitDefEqProofs only[vQ,jI,jK,BD,↓reduceIte,jA,enP,F7,LM,jQ,D6,f5,AN3 (i:=5) (k:=kk) (m:=.nil) (xs:=[]) (H:=H0),f3,l0E,zG];simp -implicitDefEqProofs only[vQ,jI,jK,BD,↓reduceIte,jA,jQ,D6,f0,f3,A45 qx];refine(A4P G W.s hP x.name i hi hil hpl).use (k:=fun r=>ret r) (TOT:=rn TM l e) (by rw[VE]; exact hS) ?_;rintro r l1 e1 nb1 _ H1 he1 x1 ⟨rfl,hr1⟩ or hS1 s1 k1;simp -implicitDefEqProofs only[vQ,jI,jK,BD,↓reduceIte,jQ,D6];exact WEnd.of (W.go he1 x1 s1 k1) hS1 hr1
 have hz:=ASX (i:=5) (off:=0) (len:=ws.length) hb (by simp) (by rw[qL,zH (by simp)]; exact A47 ws);rw[qL,zH (by simp)] at hz;have W:=W.stL hb (by omega) .dead;have qx:(H0.set b .dead)[H.length]?=some (.live 4 [EF x]):=by rw[jS (by omega)]; exact qx
 generalize H0.set b .dead=H0' at hz W qx;have pos:0<ws.length:=List.length_pos_iff.2 hne;have hx:=XP hw pos;have ox:e0=false->LOk l0 (ws.getD 0 []):=fun q=>(how q).at pos
 have i0:∀H:Hp,J8 1 H (.sl .any 1 (ws.map NE)) (.int .i64 0)=some (.fptr 1 (ws.map NE) 0 0):=fun H=>AJC (i:=0) pos
 have l0W:∀H:Hp,DF Tryz.prog H 29 (.fptr 1 (ws.map NE) 0 0)=some (wS (ws.getD 0 [])):=fun H=>AJA pos
 have l0E:=A1X qx
 have n1:x.op≠1:=fun h=>by
  rw[h] at hops;have:((x.args.length:Int)==0)=true:=hops;have:x.args.length=0:=by simpa using this
  omega
 have n2:x.op≠2:=fun h=>by
  rw[h] at hops;have:((x.args.length:Int)==0)=true:=hops;have:x.args.length=0:=by simpa using this
  omega
 obtain⟨c22,c23,cx⟩:=oo n1 n2 n3 n24;by_cases hop:x.op=4
 .rw[hop] at hS l0E
  have hS:rn ((trL (ws.getD 0 []) 0).bnd fun t=>(LQ t).bnd fun r=>ret (sgl r)) l0 e0=rn TM l e:=hS;simp -implicitDefEqProofs only[vQ,jI,jK,BD,↓reduceIte,jA,enP,OU,F7,jQ,D6,f5,hz,f3,l0E,zG];simp -implicitDefEqProofs only[vQ,jI,jK,BD,↓reduceIte,jA,enP,jQ,D6,f0,f5,hz,i0,l0W];refine(AGU G W.s _ hx ox).use hS ?_;rintro t l1 e1 nb1 _ H1 he1 x1 rfl ot hS1 s1 k1;simp -implicitDefEqProofs only[vQ,jI,jK,BD,↓reduceIte,jA,jQ,D6,f0];refine(W.go he1 x1 s1 k1).finS (AEU G s1 t ot) hS1 fun r H2 q=>?_
  simp -implicitDefEqProofs only[vQ,jI,jK,BD,↓reduceIte,jQ,D6];refine ACA G r ?_;simp -implicitDefEqProofs only[vQ,jI,jK,BD,↓reduceIte,jQ,D6];exact q
 by_cases hop:x.op=5
 .rw[hop] at hS l0E
  have hS:rn (cmpL (ws.getD 0 [])) l0 e0=rn TM l e:=hS;simp -implicitDefEqProofs only[vQ,jI,jK,BD,↓reduceIte,jA,enP,OU,F7,jQ,D6,f5,hz,f3,l0E,zG];simp -implicitDefEqProofs only[vQ,jI,jK,BD,↓reduceIte,jA,enP,jQ,D6,f0,f5,hz,i0,l0W];refine W.fin (A1F G W.s _ hx ox) hS fun v H1 q=>?_
  simp -implicitDefEqProofs only[vQ,jI,jK,BD,↓reduceIte,jQ,D6];exact q
 by_cases hop:x.op=6
 .rw[hop] at hS l0E
  have hS:rn (AA3 (cst 0) (ws.getD 0 [])) l0 e0=rn TM l e:=hS;simp -implicitDefEqProofs only[vQ,jI,jK,BD,↓reduceIte,jA,enP,F7,jQ,D6,f5,hz,f3,l0E,zG];refine EW (.ones [0,1,2,3,4] (.alt 5 (.ones [6] .done) .non)) (by kernel_rfl) ?_;simp only[DN,IE,jU,jT];simp -implicitDefEqProofs only[vQ,jI,↓reduceIte,jA,jM,enP,OU,D6,f0,f5,hz];refine⟨_,PM G 0 (by omega) H0',?_⟩;simp -implicitDefEqProofs only[vQ,jI,↓reduceIte,jA,jM,enP,D6,f0,f5,hz,i0,l0W];refine⟨W.fin (A1E G W.s (cst 0) _ (H8 0) hx (fun _=>LOk.cst W.s.v 0) ox) hS fun v H1 q=>?_,trivial⟩;simp -implicitDefEqProofs only[vQ,↓reduceIte,D6];exact q
 by_cases h2c:7<=x.op∧x.op<=21
 .have l2:1<ws.length:=by have:=ar2 he.self.nd (by omega); omega
  have hy:=XP hw l2;have oy:e0=false->LOk l0 (ws.getD 1 []):=fun q=>(how q).at l2
  have i1:∀H:Hp,J8 1 H (.sl .any 1 (ws.map NE)) (.int .i64 1)=some (.fptr 1 (ws.map NE) 1 0):=fun H=>AJC (i:=1) l2
  have l1W:∀H:Hp,DF Tryz.prog H 29 (.fptr 1 (ws.map NE) 1 0)=some (wS (ws.getD 1 [])):=fun H=>AJA l2
  by_cases hop:x.op=7
  .rw[hop] at hS l0E
   have hS:rn (PI (ws.getD 0 []) (ws.getD 1 []) 0) l0 e0=rn TM l e:=hS;simp -implicitDefEqProofs only[vQ,jI,jK,BD,↓reduceIte,jA,enP,F7,jQ,D6,f5,hz,f3,l0E,zG];refine EW (.ones [0,1,2,3,4,5,6] (.alt 7 (.ones [8] .done) .non)) (by kernel_rfl) ?_;simp only[DN,IE,jU,jT];simp -implicitDefEqProofs only[vQ,jI,↓reduceIte,jA,jM,enP,OU,D6,f0,f5,hz,i0,l0W,i1,l1W,f3];refine⟨W.fin (AVB G W.s _ _ 0 hx hy ox oy (fun _=>W.s.v.p0)) hS fun v H1 q=>?_,trivial⟩;simp -implicitDefEqProofs only[vQ,↓reduceIte,D6];exact q
  by_cases hop:x.op=8
  .rw[hop] at hS l0E
   have hS:rn (AA3 (ws.getD 0 []) (ws.getD 1 [])) l0 e0=rn TM l e:=hS;simp -implicitDefEqProofs only[vQ,jI,jK,BD,↓reduceIte,jA,enP,F7,jQ,D6,f5,hz,f3,l0E,zG];refine EW (.ones [0,1,2,3,4,5,6] (.alt 7 (.ones [8] .done) .non)) (by kernel_rfl) ?_;simp only[DN,IE,jU,jT];simp -implicitDefEqProofs only[vQ,jI,↓reduceIte,jA,jM,enP,OU,D6,f0,f5,hz,i0,l0W,i1,l1W,f3];refine⟨W.fin (A1E G W.s _ _ hx hy ox oy) hS fun v H1 q=>?_,trivial⟩;simp -implicitDefEqProofs only[vQ,↓reduceIte,D6];exact q
  by_cases hop:x.op=9
  .rw[hop] at hS l0E
   have hS:rn (XN (ws.getD 0 []) 0 (ws.getD 1 []) (cst 0)) l0 e0=rn TM l e:=hS;simp -implicitDefEqProofs only[vQ,jI,jK,BD,↓reduceIte,jA,enP,F7,jQ,D6,f5,hz,f3,l0E,zG];refine EW (.ones [0,1,2,3,4,5,6] (.alt 7 (.ones [8] .done) .non)) (by kernel_rfl) ?_;simp only[DN,IE,jU,jT];simp -implicitDefEqProofs only[vQ,jI,↓reduceIte,jA,jM,enP,OU,D6,f0,f5,hz,i0,l0W,i1,l1W,f3];refine⟨W.fin (A1B G W.s _ _ hx hy ox oy) hS fun v H1 q=>?_,trivial⟩;simp -implicitDefEqProofs only[vQ,↓reduceIte,D6];exact q
  by_cases hop:x.op=10
  .rw[hop] at hS l0E
   have hS:rn (pr2 KA (ws.getD 0 []) (ws.getD 1 [])) l0 e0=rn TM l e:=hS;simp -implicitDefEqProofs only[vQ,jI,jK,BD,↓reduceIte,jA,enP,F7,jQ,D6,f5,hz,f3,l0E,zG];refine EW (.ones [0,1,2,3,4,5,6,7,8] (.alt 9 (.ones [10] .done) .non)) (by kernel_rfl) ?_;simp only[DN,IE,jU,jT];simp -implicitDefEqProofs only[vQ,jI,↓reduceIte,jA,jM,enP,OU,F7,D6,f0,f5,hz,i0,l0W,i1,l1W,f3,l0E];refine⟨W.fin (ARI G W.s 10 (by decide) _ _ hx hy ox oy) (by rw[AOJ]; exact hS) fun v H1 q=>?_,trivial⟩;simp -implicitDefEqProofs only[vQ,↓reduceIte,D6];exact q
  by_cases hop:x.op=11
  .rw[hop] at hS l0E
   have hS:rn (pr2 oOr (ws.getD 0 []) (ws.getD 1 [])) l0 e0=rn TM l e:=hS;simp -implicitDefEqProofs only[vQ,jI,jK,BD,↓reduceIte,jA,enP,F7,jQ,D6,f5,hz,f3,l0E,zG];refine EW (.ones [0,1,2,3,4,5,6,7,8] (.alt 9 (.ones [10] .done) .non)) (by kernel_rfl) ?_;simp only[DN,IE,jU,jT];simp -implicitDefEqProofs only[vQ,jI,↓reduceIte,jA,jM,enP,OU,F7,D6,f0,f5,hz,i0,l0W,i1,l1W,f3,l0E];refine⟨W.fin (ARI G W.s 11 (by decide) _ _ hx hy ox oy) (by rw[AOI]; exact hS) fun v H1 q=>?_,trivial⟩;simp -implicitDefEqProofs only[vQ,↓reduceIte,D6];exact q
  by_cases hop:x.op=12
  .rw[hop] at hS l0E
   have hS:rn (pr2 NS (ws.getD 0 []) (ws.getD 1 [])) l0 e0=rn TM l e:=hS;simp -implicitDefEqProofs only[vQ,jI,jK,BD,↓reduceIte,jA,enP,F7,jQ,D6,f5,hz,f3,l0E,zG];refine EW (.ones [0,1,2,3,4,5,6,7,8] (.alt 9 (.ones [10] .done) .non)) (by kernel_rfl) ?_;simp only[DN,IE,jU,jT];simp -implicitDefEqProofs only[vQ,jI,↓reduceIte,jA,jM,enP,OU,F7,D6,f0,f5,hz,i0,l0W,i1,l1W,f3,l0E];refine⟨W.fin (ARI G W.s 12 (by decide) _ _ hx hy ox oy) (by rw[AOH]; exact hS) fun v H1 q=>?_,trivial⟩;simp -implicitDefEqProofs only[vQ,↓reduceIte,D6];exact q
  by_cases hop:x.op=13
  .rw[hop] at hS l0E
   have hS:rn (shS true (ws.getD 0 []) (ws.getD 1 []) 16 0 (cst 0)) l0 e0=rn TM l e:=hS;simp -implicitDefEqProofs only[vQ,jI,jK,BD,↓reduceIte,jA,enP,F7,jQ,D6,f5,hz,f3,l0E,zG];refine EW (.ones [0,1,2,3,4,5,6] (.alt 7 (.ones [8] .done) .non)) (by kernel_rfl) ?_;simp only[DN,IE,jU,jT];simp -implicitDefEqProofs only[vQ,jI,↓reduceIte,jA,jM,enP,OU,D6,f0,f5,hz,i0,l0W,i1,l1W,f3];refine⟨W.fin (ARC G W.s true _ _ hx hy ox oy) hS fun v H1 q=>?_,trivial⟩;simp -implicitDefEqProofs only[vQ,↓reduceIte,D6];exact q
  by_cases hop:x.op=14
  .rw[hop] at hS l0E
   have hS:rn (shS false (ws.getD 0 []) (ws.getD 1 []) 16 0 (cst 0)) l0 e0=rn TM l e:=hS;simp -implicitDefEqProofs only[vQ,jI,jK,BD,↓reduceIte,jA,enP,F7,jQ,D6,f5,hz,f3,l0E,zG];refine EW (.ones [0,1,2,3,4,5,6] (.alt 7 (.ones [8] .done) .non)) (by kernel_rfl) ?_;simp only[DN,IE,jU,jT];simp -implicitDefEqProofs only[vQ,jI,↓reduceIte,jA,jM,enP,OU,D6,f0,f5,hz,i0,l0W,i1,l1W,f3];refine⟨W.fin (ARC G W.s false _ _ hx hy ox oy) hS fun v H1 q=>?_,trivial⟩;simp -implicitDefEqProofs only[vQ,↓reduceIte,D6];exact q
  by_cases hop:x.op=15
  .rw[hop] at hS l0E
   have hS:rn ((eqL (ws.getD 0 []) (ws.getD 1 []) 1).bnd fun r=>ret (sgl r)) l0 e0=rn TM l e:=hS;simp -implicitDefEqProofs only[vQ,jI,jK,BD,↓reduceIte,jA,enP,F7,jQ,D6,f5,hz,f3,l0E,zG];refine EW (.ones [0,1,2,3,4,5,6] (.alt 7 (.ones [8,9] .done) .non)) (by kernel_rfl) ?_;simp only[DN,IE,jU,jT];simp -implicitDefEqProofs only[vQ,jI,↓reduceIte,jA,jM,enP,OU,D6,f0,f3,f5,hz,i0,l0W,i1,l1W];refine⟨W.finS (AK5 G W.s _ _ hx hy ox oy) hS fun r H1 q=>?_,trivial⟩;simp -implicitDefEqProofs only[vQ,↓reduceIte,D6];exact⟨_,single_ref G r H1,q⟩
  by_cases hop:x.op=16
  .rw[hop] at hS l0E
   have hS:rn ((eqL (ws.getD 0 []) (ws.getD 1 []) 1).bnd fun e=>(LQ e).bnd fun r=>ret (sgl r)) l0 e0=rn TM l e:=hS;simp -implicitDefEqProofs only[vQ,jI,jK,BD,↓reduceIte,jA,enP,F7,jQ,D6,f5,hz,f3,l0E,zG];refine EW (.ones [0,1,2,3,4,5,6] (.alt 7 (.ones [8] .done) .non)) (by kernel_rfl) ?_;simp only[DN,IE,jU,jT];simp -implicitDefEqProofs only[vQ,jI,jK,BD,↓reduceIte,jA,jM,enP,OU,jQ,D6,f0,f5,hz,i0,l0W,i1,l1W];refine⟨(AK5 G W.s _ _ hx hy ox oy).use hS ?_,trivial⟩;rintro t l1 e1 nb1 _ H1 he1 x1 rfl ot hS1 s1 k1;simp -implicitDefEqProofs only[vQ,↓reduceIte,jA,D6,f0];refine(W.go he1 x1 s1 k1).finS (AEU G s1 t ot) hS1 fun r H2 q=>?_
   simp -implicitDefEqProofs only[vQ,jI,jK,BD,↓reduceIte,jQ,D6];refine ACA G r ?_;simp -implicitDefEqProofs only[vQ,jI,jK,BD,↓reduceIte,jQ,D6];exact q
  by_cases hop:x.op=17
  .rw[hop] at hS l0E
   have hS:rn ((lsL (ws.getD 0 []) (ws.getD 1 []) 0).bnd fun r=>ret (sgl r)) l0 e0=rn TM l e:=hS;simp -implicitDefEqProofs only[vQ,jI,jK,BD,↓reduceIte,jA,enP,F7,jQ,D6,f5,hz,f3,l0E,zG];refine EW (.ones [0,1,2,3,4,5,6] (.alt 7 (.ones [8,9] .done) .non)) (by kernel_rfl) ?_;simp only[DN,IE,jU,jT];simp -implicitDefEqProofs only[vQ,jI,↓reduceIte,jA,jM,enP,OU,D6,f0,f3,f5,hz,i0,l0W,i1,l1W];refine⟨W.finS (ANE G W.s _ _ hx hy ox oy) hS fun r H1 q=>?_,trivial⟩;simp -implicitDefEqProofs only[vQ,↓reduceIte,D6];exact⟨_,single_ref G r H1,q⟩
  by_cases hop:x.op=18
  .rw[hop] at hS l0E
   have hS:rn ((lsL (ws.getD 1 []) (ws.getD 0 []) 0).bnd fun e=>(LQ e).bnd fun r=>ret (sgl r)) l0 e0=rn TM l e:=hS;simp -implicitDefEqProofs only[vQ,jI,jK,BD,↓reduceIte,jA,enP,F7,jQ,D6,f5,hz,f3,l0E,zG];refine EW (.ones [0,1,2,3,4,5,6] (.alt 7 (.ones [8] .done) .non)) (by kernel_rfl) ?_;simp only[DN,IE,jU,jT];simp -implicitDefEqProofs only[vQ,jI,jK,BD,↓reduceIte,jA,jM,enP,OU,jQ,D6,f0,f5,hz,i0,l0W,i1,l1W];refine⟨(ANE G W.s _ _ hy hx oy ox).use hS ?_,trivial⟩;rintro t l1 e1 nb1 _ H1 he1 x1 rfl ot hS1 s1 k1;simp -implicitDefEqProofs only[vQ,↓reduceIte,jA,D6,f0];refine(W.go he1 x1 s1 k1).finS (AEU G s1 t ot) hS1 fun r H2 q=>?_
   simp -implicitDefEqProofs only[vQ,jI,jK,BD,↓reduceIte,jQ,D6];refine ACA G r ?_;simp -implicitDefEqProofs only[vQ,jI,jK,BD,↓reduceIte,jQ,D6];exact q
  by_cases hop:x.op=19
  .rw[hop] at hS l0E
   have hS:rn (lgL 19 (ws.getD 0 []) (ws.getD 1 [])) l0 e0=rn TM l e:=hS;rw[ALH] at hS;simp -implicitDefEqProofs only[vQ,jI,jK,BD,↓reduceIte,jA,enP,F7,jQ,D6,f5,hz,f3,l0E,zG];refine EW (.ones [0,1,2,3,4,5,6,7,8] (.alt 9 (.ones [10,11] .done) .non)) (by kernel_rfl) ?_;simp only[DN,IE,jU,jT];simp -implicitDefEqProofs only[vQ,jI,↓reduceIte,jA,jM,enP,OU,F7,D6,f0,f3,f5,hz,l0E,i0,l0W,i1,l1W];refine⟨W.finS (AK3 G W.s 19 (by decide) _ _ hx hy ox oy) hS fun r H1 q=>?_,trivial⟩;simp -implicitDefEqProofs only[vQ,↓reduceIte,D6];exact⟨_,single_ref G r H1,q⟩
  by_cases hop:x.op=20
  .rw[hop] at hS l0E
   have hS:rn (lgL 20 (ws.getD 0 []) (ws.getD 1 [])) l0 e0=rn TM l e:=hS;rw[ALH] at hS;simp -implicitDefEqProofs only[vQ,jI,jK,BD,↓reduceIte,jA,enP,F7,jQ,D6,f5,hz,f3,l0E,zG];refine EW (.ones [0,1,2,3,4,5,6,7,8] (.alt 9 (.ones [10,11] .done) .non)) (by kernel_rfl) ?_;simp only[DN,IE,jU,jT];simp -implicitDefEqProofs only[vQ,jI,↓reduceIte,jA,jM,enP,OU,F7,D6,f0,f3,f5,hz,l0E,i0,l0W,i1,l1W];refine⟨W.finS (AK3 G W.s 20 (by decide) _ _ hx hy ox oy) hS fun r H1 q=>?_,trivial⟩;simp -implicitDefEqProofs only[vQ,↓reduceIte,D6];exact⟨_,single_ref G r H1,q⟩
  by_cases hop:x.op=21
  .rw[hop] at hS l0E
   have hS:rn (lgL 21 (ws.getD 0 []) (ws.getD 1 [])) l0 e0=rn TM l e:=hS;rw[ALH] at hS;simp -implicitDefEqProofs only[vQ,jI,jK,BD,↓reduceIte,jA,enP,F7,jQ,D6,f5,hz,f3,l0E,zG];refine EW (.ones [0,1,2,3,4,5,6,7,8] (.alt 9 (.ones [10,11] .done) .non)) (by kernel_rfl) ?_;simp only[DN,IE,jU,jT];simp -implicitDefEqProofs only[vQ,jI,↓reduceIte,jA,jM,enP,OU,F7,D6,f0,f3,f5,hz,l0E,i0,l0W,i1,l1W];refine⟨W.finS (AK3 G W.s 21 (by decide) _ _ hx hy ox oy) hS fun r H1 q=>?_,trivial⟩;simp -implicitDefEqProofs only[vQ,↓reduceIte,D6];exact⟨_,single_ref G r H1,q⟩
  omega
 by_cases hop:x.op=22
 .rw[hop] at hS l0E
  have hS:rn ((trL (ws.getD 0 []) 0).bnd fun c=>pr2 (oCh c) (ws.getD 1 []) (ws.getD 2 [])) l0 e0=rn TM l e:=hS;have l2:1<ws.length:=by have:=c22 hop; omega
  have l3:2<ws.length:=by have:=c22 hop; omega
  have hy:=XP hw l2;have hv:=XP hw l3;have i1:∀H:Hp,J8 1 H (.sl .any 1 (ws.map NE)) (.int .i64 1)=some (.fptr 1 (ws.map NE) 1 0):=fun H=>AJC (i:=1) l2
  have l1W:∀H:Hp,DF Tryz.prog H 29 (.fptr 1 (ws.map NE) 1 0)=some (wS (ws.getD 1 [])):=fun H=>AJA l2
  have i2:∀H:Hp,J8 1 H (.sl .any 1 (ws.map NE)) (.int .i64 2)=some (.fptr 1 (ws.map NE) 2 0):=fun H=>AJC (i:=2) l3
  have l2W:∀H:Hp,DF Tryz.prog H 29 (.fptr 1 (ws.map NE) 2 0)=some (wS (ws.getD 2 [])):=fun H=>AJA l3
  simp -implicitDefEqProofs only[vQ,jI,jK,BD,↓reduceIte,jA,enP,OU,F7,jQ,D6,f5,hz,f3,l0E,zG];simp -implicitDefEqProofs only[vQ,jI,jK,BD,↓reduceIte,jA,enP,jQ,D6,f0,f5,hz,i0,l0W];refine(AGU G W.s _ hx ox).use hS ?_;rintro c l1 e1 nb1 _ H1 he1 x1 rfl oc hS1 s1 k1;have W1:=W.go he1 x1 s1 k1;have oy:e1=false->LOk l1 (ws.getD 1 []):=fun q=>((how (he1 q)).at l2).go x1
  have ov:e1=false->LOk l1 (ws.getD 2 []):=fun q=>((how (he1 q)).at l3).go x1
  unfold iA;simp -implicitDefEqProofs only[vQ,jI,jK,BD,↓reduceIte,jQ,D6];refine ACalls.mono (show ACalls (En G) 89 [.int .i64 0] H1 _ from QY G 0 (by omega) H1) ?_;rintro _ _ ⟨rfl,rfl⟩;rw[AWT];have q9:isI (H1++[.live 1 ((wI (jJ 16 0)).map qencI)]) H1.length (wI (jJ 16 0)):=CU _ _;have WB:=(Wk.rfl' s1).app (.live 1 ((wI (jJ 16 0)).map qencI));generalize H1++[.live 1 ((wI (jJ 16 0)).map qencI)]=B at q9 WB|-;simp -implicitDefEqProofs only[vQ,jI,jK,BD,↓reduceIte,jQ,D6];refine GI 3 (fun F A=>∃d l' e' nb',d.length=16∧rn (ret d) l' e'=rn TM l e∧Wk bb ba bk rest nb1 l1 e1 H1 nb' l' e' A∧isI A H1.length (wI d)∧F 12=.own H1.length 0 16) (fun _ _=>False) ?_ ?_ (fun _ _ q=>q.elim)
  .refine D7 (fun n F A=>∃k d l' e' nb',n+k=16∧d.length=k∧rn ((pr2 (oCh c) ((ws.getD 1 []).drop k) ((ws.getD 2 []).drop k)).bnd fun r=>ret (d++r)) l' e'=rn TM l e∧Wk bb ba bk rest nb1 l1 e1 H1 nb' l' e' A∧isI A H1.length (wI (d++jJ (16-k) 0)) ∧
    F 0=.ptr bb 0 0∧F 5=.sl .any 1 (ws.map NE)∧F 11=.int .i64 (c:Nat)∧F 12=.own H1.length 0 16∧F 13=.int .i64 (k:Nat)) 16
    ⟨0,[],l1,e1,nb1,rfl,rfl,by rw[<-hS1]; exact VE _ _ _,WB,q9,by simp -implicitDefEqProofs only[AA,↓reduceIte,jA,D6]; exact f0,by simp -implicitDefEqProofs only[AA,↓reduceIte,jA,D6],by simp -implicitDefEqProofs only[AA,↓reduceIte,jA,D6],by simp -implicitDefEqProofs only[AA,↓reduceIte,jA,D6],by simp -implicitDefEqProofs only[AA,↓reduceIte,D6]; rfl⟩ ?_
   clear q9 WB f0 f3 f5 hz;rintro n F A ⟨k,d,l2',e2,nb2,hm,hd,hS2,W2,q9,f0,f5,f11,f12,f13⟩;simp -implicitDefEqProofs only[vQ,jI,jK,BD,↓reduceIte,enP,jQ,D6,f13,MN];refine C9 (fun hc=>?_) (fun hc=>?_)
   .have hk':k<16:=by simpa using hc
    have hky:k<(ws.getD 1 []).length:=by omega
    have hkv:k<(ws.getD 2 []).length:=by omega
    rw[AI0 _ hky hkv] at hS2;simp -implicitDefEqProofs only[vQ,D6,f13];refine EW (.ones [0,1,2,3,4,5,6,7,8,9,10,11,12,13,14,15] (.alt 16 (.ones [17,18] .done) .non)) (by kernel_rfl) ?_;simp only[DN,IE,jU,jT];simp -implicitDefEqProofs only[vQ,jI,jK,BD,↓reduceIte,jA,jM,enP,OU,KT,jQ,D6,f0,f5,f11,f12,f13,i1,l1W,i2,l2W,MM A hy hk',ML A hky,MM A hv hk',ML A hkv];refine⟨(rch G W2.s c _ _ (W2.lt oc) (MO (W2.ok oy) hky) (MO (W2.ok ov) hkv)).use hS2 ?_,trivial⟩;rintro o l3' e3 nb3 _ H3 he3 x3 rfl oo hS3 s3 k3;have q9:=W2.s.own q9 (IL hd (by omega)) k3;have W3:=W2.go he3 x3 s3 k3;have hst:=UE q9 (i:=k) (by rw[IL hd (by omega)]; exact hk') o;rw[MX hd hk'] at hst;have hix:=q9.ix (n:=16) (i:=k) (kk:=.i64) hk';have W4:=W3.st q9 (IL hd (by omega)) (jP _) (.live 1 ((wI ((d++[o])++jJ (16-(k+1)) 0)).map qencI));unfold iA;simp -implicitDefEqProofs only[vQ,jI,jK,BD,↓reduceIte,jA,enP,jO,jQ,D6,f12,f13,hix,hst,wrap_succ (show k<9223372036854775807 by omega)];exact⟨n-1,by omega,k+1,d++[o],l3',e3,nb3,by omega,by simp [hd],hS3,W4,DX q9,by trivial,by trivial,by trivial,by trivial,by trivial⟩
   .have hk':k=16:=by have:=hc; simp at this; omega
    subst hk';rw[zF (show(ws.getD 1 []).length<=16 by omega)] at hS2;have hS2:rn (ret (d++[])) l2' e2=rn TM l e:=hS2;rw[jD] at hS2;rw[grow_end hd] at q9;simp -implicitDefEqProofs only[vQ,↓reduceIte,jA,D6];exact⟨d,l2',e2,nb2,hd,hS2,W2,q9,f12⟩
  .clear q9 WB f0 f3 f5 hz
   rintro F A ⟨d,l2',e2,nb2,hd,hS2,W2,q9,f12⟩;have W3:=W2.st q9 hd (jP _) .dead;simp -implicitDefEqProofs only[vQ,jI,jK,BD,↓reduceIte,jQ,D6,f12,UF q9 hd 12];exact WEnd.of (W1.go W3.e W3.x W3.s W3.k) hS2 hd
 by_cases hop:x.op=23
 .rw[hop] at hS l0E
  have hS:rn ((insL (ws.getD 0 []) (ws.drop 1) 0).bnd fun r=>ret (sgl r)) l0 e0=rn TM l e:=hS;simp -implicitDefEqProofs only[vQ,jI,jK,BD,↓reduceIte,jA,enP,F7,jQ,D6,f5,hz,f3,l0E,zG];simp -implicitDefEqProofs only[D6,f0,f5,hz];refine(AVE G W.s .any ws pos (by omega) hw how).use hS ?_;rintro r l1 e1 nb1 _ H1 he1 x1 rfl or hS1 s1 k1;simp -implicitDefEqProofs only[vQ,jI,jK,BD,↓reduceIte,jQ,D6];refine ACA G r ?_;simp -implicitDefEqProofs only[vQ,jI,jK,BD,↓reduceIte,jQ,D6];exact WEnd.of (W.go he1 x1 s1 k1) hS1 (JQ r)
 have hop:x.op=25:=by omega
 rw[hop] at hS l0E;have hS:rn (onL (ws.getD 0 []) (cst 0)) l0 e0=rn TM l e:=hS;simp -implicitDefEqProofs only[vQ,jI,jK,BD,↓reduceIte,jA,enP,F7,jQ,D6,f5,hz,f3,l0E,zG];refine(show PCall (En G) 89 [.int .i64 0] H0' (wS (cst 0)) from PM G 0 (by omega) H0').use ?_;simp -implicitDefEqProofs only[vQ,jI,jK,BD,↓reduceIte,jQ,D6];refine GI 5 (fun F A=>∃d l' e' nb',d.length=16∧rn (ret d) l' e'=rn TM l e∧Wk bb ba bk rest nb l e H nb' l' e' A∧F 14=wS d) (fun _ _=>False) ?_ ?_ (fun _ _ q=>q.elim)
 .refine D7 (fun n F A=>∃k d l' e' nb',n+k=16∧d.length=16∧(e'=false->LOk l' d)∧rn (onL ((ws.getD 0 []).drop k) d) l' e'=rn TM l e∧Wk bb ba bk rest nb0 l0 e0 H0' nb' l' e' A ∧
   F 0=.ptr bb 0 0∧F 5=.sl .any 1 (ws.map NE)∧F 14=wS d∧F 15=.int .i64 (k:Nat)) 16
   ⟨0,cst 0,l0,e0,nb0,rfl,H8 0,fun _=>LOk.cst W.s.v 0,hS,Wk.rfl' W.s,by simp -implicitDefEqProofs only[AA,↓reduceIte,jA,D6]; exact f0,by simp -implicitDefEqProofs only[AA,↓reduceIte,jA,D6],by simp -implicitDefEqProofs only[AA,↓reduceIte,jA,D6],by simp -implicitDefEqProofs only[AA,↓reduceIte,D6]; rfl⟩ ?_
  clear f0 f3 f5 hz;rintro n F A ⟨k,d,l2',e2,nb2,hm,hd,od,hS2,W2,f0,f5,f14,f15⟩;simp -implicitDefEqProofs only[vQ,jI,jK,BD,↓reduceIte,enP,jQ,D6,f15,MN];refine C9 (fun hc=>?_) (fun hc=>?_)
  .have hk':k<16:=by simpa using hc
   have hkx:k<(ws.getD 0 []).length:=by omega
   rw[IU hkx] at hS2;simp -implicitDefEqProofs only[vQ,jI,jK,BD,↓reduceIte,jA,enP,OU,KT,jQ,D6,f0,f5,f14,f15,i0,l0W,MM A hx hk',ML A hkx];refine(single_ref G _ A).use ?_;simp -implicitDefEqProofs only[vQ,jI,jK,BD,↓reduceIte,jA,jQ,D6];refine(AVB G W2.s d (sgl _) 0 hd (JQ _) od (fun q=>LOk.sgl W2.s.v (MO (W2.ok ox) hkx q)) (fun _=>W2.s.v.p0)).use (k:=fun s'=>onL ((ws.getD 0 []).drop (k+1)) s') hS2 ?_;rintro r l3' e3 nb3 _ H3 he3 x3 ⟨rfl,hr3⟩ or hS3 s3 k3;simp -implicitDefEqProofs only[vQ,jI,jK,BD,↓reduceIte,jA,enP,jQ,D6,f15,wrap_succ (show k<9223372036854775807 by omega)];exact⟨n-1,by omega,k+1,r,l3',e3,nb3,by omega,hr3,or,hS3,W2.go he3 x3 s3 k3,by trivial,by trivial,by trivial,by trivial⟩
  .have hk':k=16:=by have:=hc; simp at this; omega
   subst hk';rw[zF (show(ws.getD 0 []).length<=16 by omega)] at hS2;have hS2:rn (ret d) l2' e2=rn TM l e:=hS2;simp -implicitDefEqProofs only[vQ,↓reduceIte,jA,D6];exact⟨d,l2',e2,nb2,hd,hS2,W.go W2.e W2.x W2.s W2.k,f14⟩
 .rintro F A ⟨d,l2',e2,nb2,hd,hS2,W2,f14⟩
  simp -implicitDefEqProofs only[vQ,jI,jK,BD,↓reduceIte,jQ,D6,f14];exact WEnd.of W2 hS2 hd
end
end Go.Proofs.YtgnoolgeijmlaaaGreatDoor.Bl
set_option linter.unusedSimpArgs false
set_option maxRecDepth 8000
namespace Go.Proofs.YtgnoolgeijmlaaaGreatDoor.Cov
open Sm Bins Go.RowKit
open Bool renaming or_false→jV,not_false→jC,or_true→qP
open List renaming getElem?_append_left→zS,drop_zero→qL,take_of_length_le→zH,getElem?_set→zI,length_cons→zZ,contains_cons→jW,contains_nil→jI,map_cons→jF,map_nil→jE,append_nil→jD,append_assoc→zJ
open Nat renaming le_refl→jP,le_of_ble_eq_true→jH,reduceBEq→jK,reduceEqDiff→jA,add_zero→jL,zero_add→jG,reduceAdd→jM
open Option renaming getD_some→jB,getD_none→jO
def sx (h:Hp)(vs:List ByteArray)(v:AV):Prop:=(vs=[]∧∃k,v=.sl .nil k [])∨(vs≠[]∧∃b,v=.own b 0 vs.length∧h[b]?=some (.live 1 (vs.map encStr)))
theorem sx.sv {h:Hp}{vs:List ByteArray}{v:AV}(s:sx h vs v):sv h vs.length v:=by
 rcases s with⟨h1,h2⟩|⟨_,h2⟩
 .exact⟨vs,jP _,.inl ⟨h1,h2⟩⟩
 .exact⟨vs,jP _,.inr h2⟩
theorem ASM (G:Nat->AV){h:Hp}{vs:List ByteArray}{v:AV}(s:ByteArray)(hv:sx h vs v)(hm:vs.length<=1099511627776):PCall (En G) 169 [v,.str s] h (.bool (LJ vs s)):=by
 rcases hv with⟨rfl,k,rfl⟩|⟨_,b,rfl,hb⟩
 .exact AN1 G k s h
 .exact AN0 G vs b s h hb hm
theorem AT1 {h:Hp}{vs:List ByteArray}{v:AV}(s:ByteArray)(hv:sx h vs v)(hm:vs.length<=1099511627776):∃v' h',IP Tryz.prog true h 97 97 v (.sl .full 1 [[.str s]])=some (v',h')∧sx h' (vs++[s]) v'∧(∀b,isB v' b->b=h.length) ∧
  h.length<=h'.length∧∀b,b<h.length->¬isB v b->h'[b]?=h[b]? := by
 rcases hv with⟨rfl,k,rfl⟩|⟨_,b,rfl,hb⟩
 .refine⟨_,_,Z4 AQZ sz9 AQK ATQ (KJ h .full 1 [[.str s]]) (by simp) (OX (by simp) (by omega)),.inr ⟨by simp,h.length,rfl,CU _ _⟩,fun b hb=>hb.symm,by simp,fun b hb _=>zS hb⟩
 .have hc:KQ h (.own b 0 vs.length)=some (1,vs.map encStr):=by
   rw[OQ hb (by simp),qL,zH (by simp)]
  refine⟨_,_,UW AQZ sz9 AQK ATQ hc (KJ h .full 1 [[.str s]]) (by simp) (by unfold room; simp; omega),.inr ⟨by simp,h.length,by simp,by simp [encStr]⟩,fun b hb=>hb.symm,by simp,fun o ho hn=>?_⟩;rw[zS (by simpa using ho)];have hn':¬b=o:=hn;rw[zI,if_neg hn']
structure Sx (h:Hp) (c:Nat) (l1 l2:List ByteArray) (n dd:Nat) (f:Int) (v1 v2:AV):Prop where
 w:h[c]?=some (.live 5 [wRow n dd f v1 v2])
 s1:sx h l1 v1
 s2:sx h l2 v2
 ap:∀b,isB v1 b->¬isB v2 b
theorem Sx.st {h:Hp}{c n dd:Nat}{l1 l2:List ByteArray}{f:Int}{v1 v2:AV}(s:Sx h c l1 l2 n dd f v1 v2):St h c l1.length l2.length n dd f v1 v2:=⟨s.w,s.s1.sv,s.s2.sv,s.ap⟩
theorem sx.keep {h h':Hp}{vs:List ByteArray}{v:AV}(hs:sx h vs v)(hk:∀b,isB v b->h'[b]?=h[b]?):sx h' vs v:=by
 rcases hs with h1|⟨hn,b,rfl,hb⟩
 .exact .inl h1
 .exact .inr ⟨hn,b,rfl,by rw[hk b rfl]; exact hb⟩
theorem Sx.app {h:Hp}{c n dd:Nat}{l1 l2:List ByteArray}{f:Int}{v1 v2:AV}(s:Sx h c l1 l2 n dd f v1 v2)(x:Hp):Sx (h++x) c l1 l2 n dd f v1 v2:=by
 have keep:∀v l,sx h l v->sx (h++x) l v:=fun v l hv=>hv.keep fun b hb=>by
  obtain⟨vs,h'⟩:=hv.sv.b hb;exact zS (CB h')
 exact⟨RN s.w,keep _ _ s.s1,keep _ _ s.s2,s.ap⟩
theorem Sx.set {h:Hp}{c n dd:Nat}{l1 l2:List ByteArray}{f:Int}{v1 v2:AV}(s:Sx h c l1 l2 n dd f v1 v2)(n' dd':Nat)(f':Int):Sx (h.set c (.live 5 [wRow n' dd' f' v1 v2])) c l1 l2 n' dd' f' v1 v2:=by
 have keep:∀v l,sx h l v->sx (h.set c (.live 5 [wRow n' dd' f' v1 v2])) l v:=fun v l hv=>hv.keep fun b hb=>by
  rw[zI,if_neg (fun e=>hv.sv.ne s.w hb e.symm)]
 exact⟨DX s.w,keep _ _ s.s1,keep _ _ s.s2,s.ap⟩
theorem Sx.app3 {h:Hp}{c n dd:Nat}{l1 l2:List ByteArray}{f:Int}{v1 v2:AV}(s:Sx h c l1 l2 n dd f v1 v2)(x:ByteArray)(hm:l1.length<=1099511627776) :
  ∃ v' h',IP Tryz.prog true h 97 97 v1 (.sl .full 1 [[.str x]])=some (v',h')∧FO Tryz.prog h' 97 (.ptr c 0 3) v'=some (h'.set c (.live 5 [wRow n dd f v' v2])) ∧
    Sx (h'.set c (.live 5 [wRow n dd f v' v2])) c (l1++[x]) l2 n dd f v' v2∧Ch c v1 v2 h v' v2 (h'.set c (.live 5 [wRow n dd f v' v2])):=by
 obtain⟨v',h',ha,hs,hb,hl,hk⟩:=AT1 x s.s1 hm;have hc1:¬isB v1 c:=fun e=>s.s1.sv.ne s.w e rfl
 have hc2:¬isB v2 c:=fun e=>s.s2.sv.ne s.w e rfl
 have hcl:=CB s.w;have hw:h'[c]?=some (.live 5 [wRow n dd f v1 v2]):=by rw[hk c hcl hc1]; exact s.w
 have hvc:∀b,isB v' b->b≠c:=fun b hb' e=>by have:=hb b hb'; omega
 have hac:JM v'=some [v']:=by
  rcases hs with⟨_,k,rfl⟩|⟨_,b,rfl,_⟩<;>rfl
 refine⟨v',h',ha,by rw[G7 hac AQ2 hw (row:=wRow n dd f v1 v2) rfl (by simp [wRow])]; rfl,⟨DX hw,hs.keep fun b hb'=>?_,s.s2.keep fun b hb'=>?_,fun b h1 h2=>?_⟩,⟨by simpa using hl,fun b hbl hne h1 h2=>?_,fun b hb'=>.inr (by rw[hb b hb']; exact jP _),fun b hb'=>.inl hb'⟩⟩
 .rw[zI,if_neg (fun e=>hvc b hb' e.symm)]
 .obtain⟨_,hx⟩:=s.s2.sv.b hb'
  rw[zI,if_neg (fun e=>hc2 (by rw[e]; exact hb')),hk b (CB hx) (fun e=>s.ap b e hb')]
 .obtain⟨_,hx⟩:=s.s2.sv.b h2
  have:=hb b h1; have:=CB hx; omega
 .rw[zI,if_neg (fun e=>hne e.symm),hk b hbl h1]
theorem Sx.app4 {h:Hp}{c n dd:Nat}{l1 l2:List ByteArray}{f:Int}{v1 v2:AV}(s:Sx h c l1 l2 n dd f v1 v2)(x:ByteArray)(hm:l2.length<=1099511627776) :
  ∃ v' h',IP Tryz.prog true h 97 97 v2 (.sl .full 1 [[.str x]])=some (v',h')∧FO Tryz.prog h' 97 (.ptr c 0 4) v'=some (h'.set c (.live 5 [wRow n dd f v1 v'])) ∧
    Sx (h'.set c (.live 5 [wRow n dd f v1 v'])) c l1 (l2++[x]) n dd f v1 v'∧Ch c v1 v2 h v1 v' (h'.set c (.live 5 [wRow n dd f v1 v'])):=by
 obtain⟨v',h',ha,hs,hb,hl,hk⟩:=AT1 x s.s2 hm;have hc1:¬isB v1 c:=fun e=>s.s1.sv.ne s.w e rfl
 have hc2:¬isB v2 c:=fun e=>s.s2.sv.ne s.w e rfl
 have hcl:=CB s.w;have hw:h'[c]?=some (.live 5 [wRow n dd f v1 v2]):=by rw[hk c hcl hc2]; exact s.w
 have hvc:∀b,isB v' b->b≠c:=fun b hb' e=>by have:=hb b hb'; omega
 have hac:JM v'=some [v']:=by
  rcases hs with⟨_,k,rfl⟩|⟨_,b,rfl,_⟩<;>rfl
 refine⟨v',h',ha,by rw[G7 hac AQ2 hw (row:=wRow n dd f v1 v2) rfl (by simp [wRow])]; rfl,⟨DX hw,s.s1.keep fun b hb'=>?_,hs.keep fun b hb'=>?_,fun b h1 h2=>?_⟩,⟨by simpa using hl,fun b hbl hne h1 h2=>?_,fun b hb'=>.inl hb',fun b hb'=>.inr (by rw[hb b hb']; exact jP _)⟩⟩
 .obtain⟨_,hx⟩:=s.s1.sv.b hb'
  rw[zI,if_neg (fun e=>hc1 (by rw[e]; exact hb')),hk b (CB hx) (fun e=>s.ap b hb' e)]
 .rw[zI,if_neg (fun e=>hvc b hb' e.symm)]
 .obtain⟨_,hx⟩:=s.s1.sv.b h1
  have:=hb b h2; have:=CB hx; omega
 .rw[zI,if_neg (fun e=>hne e.symm),hk b hbl h2]
def vE (l:List ByteArray)(e:Ex):List ByteArray:=if((e.op==2) && !LJ l e.name)=true then l++[e.name] else l
def aE (l:List ByteArray)(e:Ex):List ByteArray:=if(((e.op==3)||(e.op==24)) && !LJ l e.name)=true then l++[e.name] else l
def vL (l:List ByteArray)(xs:List Ex):List ByteArray:=xs.foldl vE l
def aL (l:List ByteArray)(xs:List Ex):List ByteArray:=xs.foldl aE l
theorem AYZ (l:List ByteArray)(xs ys:List Ex):vL l (xs++ys)=vL (vL l xs) ys:=List.foldl_append
theorem A0H (l:List ByteArray)(xs ys:List Ex):aL l (xs++ys)=aL (aL l xs) ys:=List.foldl_append
theorem AQW (l:List ByteArray)(e:Ex):(vE l e).length<=l.length+1:=by unfold vE; split<;>simp
theorem AUA (l:List ByteArray)(e:Ex):(aE l e).length<=l.length+1:=by unfold aE; split<;>simp
theorem AKU:∀(xs:List Ex) (l:List ByteArray),(vL l xs).length<=l.length+xs.length
 | [],l=>by simp [vL]
 | x::xs,l=>by have:=AKU xs (vE l x); have:=AQW l x; simp only[vL,List.foldl_cons,zZ] at *; omega
theorem AT9:∀(xs:List Ex) (l:List ByteArray),(aL l xs).length<=l.length+xs.length
 | [],l=>by simp [aL]
 | x::xs,l=>by have:=AT9 xs (aE l x); have:=AUA l x; simp only[aL,List.foldl_cons,zZ] at *; omega
def MdX (e:Ex)(c d:Nat)(v1 v2:AV)(h:Hp)(l1 l2:List ByteArray)(n dd:Nat)(f:Int)(F:Nat->AV)(H:Hp):Prop :=
 F 0=.ptr c 0 0∧F 2=.int .i64 (d:Nat)∧F 4=.ptr h.length 0 0∧∃u1 u2,Sx H c l1 l2 n dd f u1 u2∧Ch c v1 v2 (h++[.live 4 [EF e]]) u1 u2 H
theorem AQ9 (G:Nat->AV)(c:Nat)(e:Ex):WN e->∀(h:Hp) (d n dd:Nat) (f:Int) (l1 l2:List ByteArray) (v1 v2:AV),d+wt e<=549755813888->n+wt e<=549755813888->dd<=1099511627776->l1.length<=n->l2.length<=n->Sx h c l1 l2 n dd f v1 v2 ->
  ACalls (En G) 116 [.ptr c 0 0,.agg (EF e),.int .i64 (d:Nat)] h fun _ h'=>∃u1 u2,Sx h' c (vL l1 (pre e)) (aL l2 (pre e)) (n+(pre e).length) (max dd (d+deps e.args)) (O3 f (pre e)) u1 u2∧Ch c v1 v2 h u1 u2 h':=by
 induction e using Ex.induct with|h e ih=>?_
 intro hwn h d n dd f l1 l2 v1 v2 hd hn hdd hl1 hl2 s;have hw:=hwn.1;have hnm:e.name.size<=1048576:=hwn.2 e (by rw[pre_eq]; simp);have hal:e.args.length<=wts e.args:=YK e.args;have hwe:=QU e;have hcl:=CB s.w
 have hbox:∀(u1 u2:AV) (H:Hp),Ch c v1 v2 (h++[.live 4 [EF e]]) u1 u2 H->H[h.length]?=some (.live 4 [EF e]):=by
  intro u1 u2 H hC;rw[hC.get h.length (by simp) (by omega) (fun hb=>?_) (fun hb=>?_)]
  .exact CU _ _
  .obtain⟨_,hx⟩:=s.s1.sv.b hb
   have:=CB hx; omega
  .obtain⟨_,hx⟩:=s.s2.sv.b hb
   have:=CB hx; omega
 have lb0:∀H:Hp,H[h.length]?=some (.live 4 [EF e])->DF Tryz.prog H 3 (.ptr h.length 0 0)=some (.int .i64 e.op):=fun H hH=>by rw[DJ ag3 hH (row:=EF e) rfl,J9]
 have lb2:∀H:Hp,H[h.length]?=some (.live 4 [EF e])->DF Tryz.prog H 9 (.ptr h.length 0 2)=some (.str e.name):=fun H hH=>by rw[DJ ag9 hH (row:=EF e) rfl,PH]
 have lb3:∀H:Hp,H[h.length]?=some (.live 4 [EF e])->DF Tryz.prog H 23 (.ptr h.length 0 3)=some (.sl e.m 4 (e.args.map EF)):=fun H hH=>by rw[DJ VX hH (row:=EF e) rfl,VQ]
 refine IV (H:=hint [56,85] []) (enM G) Tryz.func116 rfl (by kernel_rfl) (by kernel_rfl) (jH (by kernel_rfl)) ?_;show awp _ _ _ _ _ (EK _ [] _);have s0:=s.app [.live 4 [EF e]];have c0:=Ch.app c v1 v2 h [.live 4 [EF e]];simp -implicitDefEqProofs only[vQ,jW,jI,jK,jV,BD,↓reduceIte,jA,enP,AHD,ADU,jO,bxE,s0.st.l0,wrap_succ (show n<9223372036854775807 by omega),s0.st.t0];have s1:=s0.set (n+1) dd f;have c1:=Ch.set c v1 v2 (h++[.live 4 [EF e]]) (.live 5 [wRow (n+1) dd f v1 v2]);clear s0;generalize (h++[ABlk.live 4 [EF e]]).set c (.live 5 [wRow (n+1) dd f v1 v2])=H1 at s1 c1|-;simp -implicitDefEqProofs only[vQ,jW,jI,jK,jV,BD,↓reduceIte,jA,enP,s1.st.l1];refine QG (MdX e c d v1 v2 h l1 l2 (n+1) (max dd d) f) (fun _ _=>False) (fun hb=>?_) (fun hb=>?_) ?_ (fun _ _ hh=>hh.elim)
 .simp -implicitDefEqProofs only[vQ,jW,jI,jK,jV,BD,↓reduceIte,jA,enP,ADU,jO,s1.st.t1]
  refine⟨rfl,rfl,rfl,v1,v2,?_,c1.trans (Ch.set c _ _ _ _)⟩;have:max dd d=d:=by simp at hb; omega
  rw[this];exact s1.set (n+1) d f
 .simp -implicitDefEqProofs only[vQ]
  refine⟨rfl,rfl,rfl,v1,v2,?_,c1⟩;have:max dd d=dd:=by simp at hb; omega
  rw[this];exact s1
 clear s1 c1;rintro F H ⟨f0,f2,f4,u1,u2,s,hC⟩;simp -implicitDefEqProofs only[vQ,jW,jI,jK,jV,BD,↓reduceIte,enP,XV,f0,s.st.l2];refine QG (MdX e c d v1 v2 h l1 l2 (n+1) (max dd d) (O3 f [e])) (fun _ _=>False) (fun hb=>?_) (fun hb=>?_) ?_ (fun _ _ hh=>hh.elim)
 .simp -implicitDefEqProofs only[vQ,jW,jI,jK,jV,BD,↓reduceIte,jA,enP,f0,f2,f4,JH (hbox _ _ _ hC)]
  refine(AE7 G e _ hnm).use ?_;simp -implicitDefEqProofs only[vQ,jW,jI,jK,jV,BD,↓reduceIte,jA,enP,XV,jO,s.st.t2,f0,f2,f4];refine⟨f0,f2,f4,u1,u2,?_,hC.trans (Ch.set c _ _ _ _)⟩
  have:O3 f [e]=JW e:=by
   have:f=0:=by simpa using hb
   subst this; rfl
  rw[this];exact s.set _ _ _
 .simp -implicitDefEqProofs only[vQ]
  refine⟨f0,f2,f4,u1,u2,?_,hC⟩
  have:O3 f [e]=f:=by
   have:f≠0:=by simpa using hb
   show(if f=0 then JW e else f)=f;rw[if_neg this]
  rw[this]; exact s
 clear f0 f2 f4 s hC;rintro F H ⟨f0,f2,f4,u1,u2,s,hC⟩;simp -implicitDefEqProofs only[vQ];refine GL (by kernel_rfl) ?_;have hB:=hbox _ _ _ hC;refine AH2 (fun F H=>F 47=.bool ((e.op==2) && !LJ l1 e.name)∧MdX e c d v1 v2 h l1 l2 (n+1) (max dd d) (O3 f [e]) F H) ?_ ?_
 .cases b2:(e.op==2)
  .simp -implicitDefEqProofs only[vQ,jW,jI,jK,jV,U6,CV,EY,↓reduceIte,jA,jM,enP,F7,f0,f2,f4,lb0 _ hB,b2]
   exact⟨rfl,f0,f2,f4,u1,u2,s,hC⟩
  .simp -implicitDefEqProofs only[vQ,jW,jI,jK,jV,QM,AH3,CV,↓reduceIte,jA,jM,enP,F7,LM,ADT,f0,f2,f4,lb0 _ hB,lb2 _ hB,b2,s.st.l3]
   refine⟨_,ASM G e.name s.s1 (by omega),?_⟩;simp -implicitDefEqProofs only[vQ,jW,jI,jK,jV,↓reduceIte,jA,jM,f0,f2,f4];exact⟨by first|trivial|rfl|simp,f0,f2,f4,u1,u2,s,hC⟩
 clear f0 f2 f4 s hC hB;rintro F H ⟨f47,f0,f2,f4,u1,u2,s,hC⟩;have hB:=hbox _ _ _ hC;simp -implicitDefEqProofs only[vQ,f47];refine QG (MdX e c d v1 v2 h (vE l1 e) l2 (n+1) (max dd d) (O3 f [e])) (fun _ _=>False) (fun hb=>?_) (fun hb=>?_) ?_ (fun _ _ hh=>hh.elim)
 .obtain⟨v',H',ha,ht,s',hC'⟩:=s.app3 e.name (by omega)
  refine GL (by kernel_rfl) ?_;simp -implicitDefEqProofs only[vQ,jW,jI,jK,jV,KZ,JJ,MC,↓reduceIte,jA,jM,enP,LM,ADT,jO,f0,f2,f4,lb2 _ hB,s.st.l3,AJ6,ha,ht];refine⟨f0,f2,f4,_,_,?_,hC.trans hC'⟩;unfold vE; rw[if_pos hb]; exact s'
 .simp -implicitDefEqProofs only[vQ]
  refine⟨f0,f2,f4,_,_,?_,hC⟩;unfold vE; rw[if_neg (by rw[hb]; decide)]; exact s
 clear f0 f2 f4 s hC hB;rintro F H ⟨f0,f2,f4,u1,u2,s,hC⟩;have hB:=hbox _ _ _ hC;simp -implicitDefEqProofs only[vQ];refine GL (by kernel_rfl) ?_;refine AH2 (fun F H=>F 76=.bool (((e.op==3)||(e.op==24)) && !LJ l2 e.name)∧MdX e c d v1 v2 h (vE l1 e) l2 (n+1) (max dd d) (O3 f [e]) F H) ?_ ?_
 .have hr:=ASM G e.name s.s2 (by omega)
  cases b2:(e.op==3)
  .cases b3:(e.op==24)
   .simp -implicitDefEqProofs only[vQ,jW,jI,jK,jV,U6,CV,EY,↓reduceIte,jA,jM,enP,F7,f0,f2,f4,lb0 _ hB,b2,b3]
    exact⟨rfl,f0,f2,f4,u1,u2,s,hC⟩
   .simp -implicitDefEqProofs only[vQ,jW,jI,jK,jV,qP,QM,AH3,CV,↓reduceIte,jA,jM,enP,F7,LM,XU,f0,f2,f4,lb0 _ hB,lb2 _ hB,b2,b3,s.st.l4]
    refine⟨_,hr,?_⟩;simp -implicitDefEqProofs only[vQ,jW,jI,jK,jV,↓reduceIte,jA,jM,f0,f2,f4];exact⟨by first|trivial|rfl|simp,f0,f2,f4,u1,u2,s,hC⟩
  .simp -implicitDefEqProofs only[vQ,jW,jI,jK,jV,Bool.true_or,QM,AH3,CV,EY,↓reduceIte,jA,jM,enP,F7,LM,XU,f0,f2,f4,lb0 _ hB,lb2 _ hB,b2,s.st.l4]
   refine⟨_,hr,?_⟩;simp -implicitDefEqProofs only[vQ,jW,jI,jK,jV,↓reduceIte,jA,jM,f0,f2,f4];exact⟨by first|trivial|rfl|simp,f0,f2,f4,u1,u2,s,hC⟩
 clear f0 f2 f4 s hC hB f47;rintro F H ⟨f76,f0,f2,f4,u1,u2,s,hC⟩;have hB:=hbox _ _ _ hC;simp -implicitDefEqProofs only[vQ,f76];refine QG (MdX e c d v1 v2 h (vE l1 e) (aE l2 e) (n+1) (max dd d) (O3 f [e])) (fun _ _=>False) (fun hb=>?_) (fun hb=>?_) ?_ (fun _ _ hh=>hh.elim)
 .obtain⟨v',H',ha,ht,s',hC'⟩:=s.app4 e.name (by omega)
  refine GL (by kernel_rfl) ?_;simp -implicitDefEqProofs only[vQ,jW,jI,jK,jV,qP,KZ,JJ,MC,↓reduceIte,jA,jM,enP,LM,XU,jO,f0,f2,f4,lb2 _ hB,s.st.l4,AJ6,ha,ht];refine⟨f0,f2,f4,_,_,?_,hC.trans hC'⟩;unfold aE; rw[if_pos hb]; exact s'
 .simp -implicitDefEqProofs only[vQ]
  refine⟨f0,f2,f4,_,_,?_,hC⟩;unfold aE; rw[if_neg (by rw[hb]; decide)]; exact s
 clear f0 f2 f4 s hC hB f76;rintro F H ⟨f0,f2,f4,u1,u2,s,hC⟩;have hv1:=AQW l1 e;have ha1:=AUA l2 e;simp -implicitDefEqProofs only[vQ,jW,jI,jK,jV,BD];refine D7 (fun k F H=>∃j,k+j=e.args.length∧F 6=.int .i64 (j:Nat)∧MdX e c d v1 v2 h (vL (vE l1 e) (IR (e.args.take j))) (aL (aE l2 e) (IR (e.args.take j))) (n+1+(IR (e.args.take j)).length) (max dd (d+deps (e.args.take j))) (O3 (O3 f [e]) (IR (e.args.take j))) F H) e.args.length ⟨0,by simp,rfl,f0,f2,f4,u1,u2,s,hC⟩ ?_;clear f0 f2 f4 s hC;rintro k F H ⟨j,hj,f6,f0,f2,f4,u1,u2,s,hC⟩;have hB:=hbox _ _ _ hC;simp -implicitDefEqProofs only[vQ,jW,jI,jK,jV,BD,↓reduceIte,jA,enP,WT,ND,f6,f4,lb3 _ hB,List.length_map];refine C9 (fun hlt=>?_) (fun hlt=>?_)
 .have hj':j<e.args.length:=by simpa using hlt
  have hmem:e.args[j]∈e.args:=List.getElem_mem hj';have hwa:=V4 hmem
  have hpl:(IR (e.args.take j)).length+(pre e.args[j]).length<=wts e.args:=by
   have h1:=YW e.args
   have h2:IR e.args=IR (e.args.take j)++(pre e.args[j]++IR (e.args.drop (j+1))):=by
    rw[<-zJ,<-KW _ _ hj',<-MS,List.take_append_drop]
   rw[h2] at h1; simp at h1; omega
  have hsp:(IR (e.args.take j)).length+wt e.args[j]<=wts e.args:=by
   have h1:=YW (e.args.take j);have h2:=ACQ e.args j hj';omega
  have hdt:deps (e.args.take j)<=wts e.args:=UM e.args j;simp -implicitDefEqProofs only[vQ,jW,jI,jK,jV,BD,↓reduceIte,jA,enP,AAO,ND,f0,f2,f4,f6,lb3 _ hB,EZ hj',GM YB RX IZ hj',wrap_succ (show d<9223372036854775807 by omega)];refine(ih e.args[j] hmem ⟨by omega,fun x hx=>hwn.2 x (by rw[pre_eq]; exact List.mem_cons_of_mem _ (YX hmem x hx))⟩ H (d+1) _ _ _ _ _ u1 u2 (by omega) (by omega) (by omega) (by have:=AKU (IR (e.args.take j)) (vE l1 e); omega) (by have:=AT9 (IR (e.args.take j)) (aE l2 e); omega) s).mono ?_;rintro v H' ⟨w1,w2,s',hC'⟩;simp -implicitDefEqProofs only[vQ,jW,jI,jK,jV,BD,↓reduceIte,jA,enP,f6,wrap_succ (show j<9223372036854775807 by omega)];refine⟨k-1,by omega,j+1,by omega,rfl,f0,f2,f4,w1,w2,?_,hC.trans hC'⟩;rw[KW _ _ hj',AA4 _ _ hj',ZP,AYZ,A0H,List.length_append]
  have e1:max (max dd (d+deps (e.args.take j))) (d+1+deps e.args[j].args)=max dd (d+max (deps (e.args.take j)) (dep e.args[j])):=by
   rw[AA5]; omega
  rw[e1,Nat.add_assoc (n+1)] at s';exact s'
 .have hj':¬j<e.args.length:=by simpa using hlt
  rw[zH (by omega)] at s;simp -implicitDefEqProofs only[vQ,AAZ,↓reduceIte];refine⟨u1,u2,?_,c0.trans hC⟩;have e1:n+1+(IR e.args).length=n+(pre e).length:=by rw[pre_eq]; simp; omega
  have e2:O3 (O3 f [e]) (IR e.args)=O3 f (pre e):=by rw[pre_eq,<-ZP]; rfl
  have e3:vL (vE l1 e) (IR e.args)=vL l1 (pre e):=by rw[pre_eq]; rfl
  have e4:aL (aE l2 e) (IR e.args)=aL l2 (pre e):=by rw[pre_eq]; rfl
  rw[e1,e2,e3,e4] at s;exact s
theorem AFK (G:Nat->AV)(e:Ex)(hwn:WN e)(h:Hp) :
  ACalls (En G) 57 [.agg (EF e)] h fun v h'=>∃c u1 u2,v=.ptr c 0 0∧h.length<=c∧Sx h' c (vL [] (pre e)) (aL [] (pre e)) (pre e).length (dep e) (errs (pre e)) u1 u2∧(∀b,isB u1 b->h.length<=b)∧(∀b,isB u2 b->h.length<=b)∧∃x,h'=h++x:=by
 refine acN Tryz.func57 rfl ?_;show awp _ _ _ _ _ (EK _ [.tmp 2] _);simp -implicitDefEqProofs only[vQ,BD,SQ,↓reduceIte,jA,enP,bxE,AYI,AYE,JH (BO (CU h _))];have nb:∀b,¬isB (.sl .nil 0 []) b:=fun b hb=>hb
 have hw:=hwn.1;refine(AQ9 G _ e hwn _ 1 0 0 0 [] [] (.sl .nil 0 []) (.sl .nil 0 []) (by omega) (by omega) (by omega) (jP _) (jP _) ⟨CU _ _,.inl ⟨rfl,_,rfl⟩,.inl ⟨rfl,_,rfl⟩,fun b hb=>(nb b hb).elim⟩).mono ?_;rintro v h' ⟨u1,u2,s,hC⟩;simp -implicitDefEqProofs only[vQ,BD,↓reduceIte,jA];have e1:0+(pre e).length=(pre e).length:=jG _;have e2:max 0 (1+deps e.args)=dep e:=by rw[AA5]; omega
 rw[e1,e2] at s;have hC2:=((Ch.app (h++[ABlk.live 4 [EF e]]).length (.sl .nil 0 []) (.sl .nil 0 []) h [.live 4 [EF e]]).trans (Ch.app _ _ _ _ [.live 5 [wRow 0 0 0 (.sl .nil 0 []) (.sl .nil 0 [])]])).trans hC;refine⟨_,u1,u2,rfl,by simp,s,fun b hb=>(hC2.n1 b hb).elim (fun q=>(nb b q).elim) id,fun b hb=>(hC2.n2 b hb).elim (fun q=>(nb b q).elim) id,?_⟩;exact Chg.above (c:=(h++[ABlk.live 4 [EF e]]).length) ⟨hC2.len,fun b hb hne=>hC2.get b hb hne (nb b) (nb b)⟩ (by simp)
def nmQ (l:List ByteArray)(v:AV):Prop:=(l=[]∧∃k,v=.sl .nil k [])∨v=.sl .any 1 (l.map encStr)
theorem ASV {h H:Hp}{l:List ByteArray}{v:AV}(s:sx H l v)(hb:∀b,isB v b->h.length<=b):nmQ l (JS h.length H 2 v):=by
 rcases s with⟨rfl,k,rfl⟩|⟨_,b,rfl,hH⟩
 .exact .inl ⟨rfl,k,rfl⟩
 .refine .inr ?_
  have hbl:=hb b rfl;have e1:((l.map encStr).drop 0).take l.length=l.map encStr:=by rw[qL,zH (by simp)]
  have e2:(l.map encStr).map (·.map (JS h.length H 1))=l.map encStr:=by
   rw[List.map_map];congr 1
  have e3:(l.map encStr).all (·.all AV.leaf)=true:=by
   rw[List.all_map,List.all_eq_true]; intro x _; rfl
  show(if b<h.length then AV.junk else match H[b]? with
   | some (.live k xs)=>if 0+l.length<=xs.length∧(((xs.drop 0).take l.length).map (·.map (JS h.length H 1))).all (·.all AV.leaf)=true then AV.sl .any k (((xs.drop 0).take l.length).map (·.map (JS h.length H 1))) else .junk
   | _=>.junk)=_
  rw[if_neg (by omega),hH];simp only;rw[e1,e2,if_pos ⟨by simp,e3⟩]
theorem APJ (G:Nat->AV)(e:Ex)(hwn:WN e)(h:Hp):Bl.QCall (En G) 87 [.agg (EF e)] h (nmQ (vL [] (pre e))):=by
 refine Bl.ACalls.pureQ 2 (R:=fun v H=>Sm.ext h H∧∃u,v=u∧sx H (vL [] (pre e)) u∧∀b,isB u b->h.length<=b) ?_ (fun v H ⟨q1,u,q2,q3,q4⟩=>⟨q1,by rw[q2]; exact ASV q3 q4⟩);refine acN Tryz.func87 rfl ?_;show awp _ _ _ _ _ (EK _ [.tmp 2] _);simp -implicitDefEqProofs only[vQ,BD,↓reduceIte,jA,enP,bxE,ldE];refine(AFK G e hwn _).mono ?_;rintro v h' ⟨c,u1,u2,rfl,hc,s,b1,b2,x,rfl⟩;simp -implicitDefEqProofs only[vQ,BD,↓reduceIte,enP,ADT,s.st.l3];exact⟨⟨_,by rw[zJ]⟩,u1,by trivial,s.s1,fun b hb=>by have:=b1 b hb; simp at this; omega⟩
theorem arrays_ref (G:Nat->AV)(e:Ex)(hwn:WN e)(h:Hp):Bl.QCall (En G) 86 [.agg (EF e)] h (nmQ (aL [] (pre e))):=by
 refine Bl.ACalls.pureQ 2 (R:=fun v H=>Sm.ext h H∧∃u,v=u∧sx H (aL [] (pre e)) u∧∀b,isB u b->h.length<=b) ?_ (fun v H ⟨q1,u,q2,q3,q4⟩=>⟨q1,by rw[q2]; exact ASV q3 q4⟩);refine acN Tryz.func86 rfl ?_;show awp _ _ _ _ _ (EK _ [.tmp 2] _);simp -implicitDefEqProofs only[vQ,BD,↓reduceIte,jA,enP,bxE,ldE];refine(AFK G e hwn _).mono ?_;rintro v h' ⟨c,u1,u2,rfl,hc,s,b1,b2,x,rfl⟩;simp -implicitDefEqProofs only[vQ,BD,↓reduceIte,enP,XU,s.st.l4];exact⟨⟨_,by rw[zJ]⟩,u2,by trivial,s.s2,fun b hb=>by have:=b2 b hb; simp at this; omega⟩
end Go.Proofs.YtgnoolgeijmlaaaGreatDoor.Cov
set_option linter.unusedSimpArgs false
set_option maxRecDepth 8000
namespace Go.Proofs.YtgnoolgeijmlaaaGreatDoor.Bl
open Sm Bins Cov Xe Wd Go.Proofs.YtgnoolgeijmlaaaGreatDoor.Bd Go.RowKit
open Bool renaming not_true→jZ,not_false→jC,false_or→qG
open List renaming any_eq_true→wG,map_cons→jF,map_nil→jE,append_nil→jD,drop_eq_getElem_cons→zU,drop_eq_nil_of_le→zF
open Nat renaming reduceEqDiff→jA,add_zero→jL,reduceAdd→jM
open Option renaming getD_some→jB
theorem AT5 (f:ByteArray->Bool)(hf:∀a b:ByteArray,a.toList=b.toList->f a=f b):∀(xs:List Ex) (l:List ByteArray),(vL l xs).any f=(l.any f||xs.any fun x=>(x.op==2)&&f x.name)
 | [],l=>by simp [vL]
 | x::xs,l=>by
   have ih:=AT5 f hf xs (vE l x);rw[show vL l (x::xs)=vL (vE l x) xs from rfl,ih,List.any_cons]
   have hv:(vE l x).any f=(l.any f||((x.op==2)&&f x.name)):=by
    unfold vE;cases h2:(x.op==2)
    .simp
    cases hh:LJ l x.name
    .simp
    .simp only[jZ,Bool.and_false,Bool.false_eq_true,if_false,Bool.true_and]
     unfold LJ at hh;rw[wG] at hh;obtain⟨u,hu,he⟩:=hh;have he:x.name.toList=u.toList:=by simpa using he
     cases hfx:f x.name
     .simp
     .have:l.any f=true:=wG.2 ⟨u,hu,by rw[<-hf _ _ he]; exact hfx⟩
      rw[this]; rfl
   rw[hv,Bool.or_assoc]
theorem AT8:∀(xs:List Ex) (l:List ByteArray),(aL l xs).isEmpty=(l.isEmpty && !xs.any NT)
 | [],l=>by simp [aL]
 | x::xs,l=>by
   have ih:=AT8 xs (aE l x);rw[show aL l (x::xs)=aL (aE l x) xs from rfl,ih,List.any_cons]
   have hv:(aE l x).isEmpty=(l.isEmpty && !NT x):=by
    unfold aE;rw[show((x.op==3)||(x.op==24))=NT x from rfl];cases h2:NT x
    .simp
    cases hh:LJ l x.name
    .simp
    .cases l with
     | nil=>cases hh
     | cons a r=>simp
   rw[hv];cases l.isEmpty<;>cases NT x<;>cases xs.any NT<;>rfl
theorem ARL (l:List Vr)(a b:ByteArray)(h:a.toList=b.toList):decide (plc l a<0)=decide (plc l b<0):=by
 unfold plc JX;rw[h]
theorem AOP (s:ByteArray):∀l:List Vr,(l.any fun v=>v.name.toList==s.toList) = !decide (plc l s<0)
 | []=>rfl
 | v::r=>by
   have ih:=AOP s r;rw[List.any_cons,ih];show((JX s v) || !decide (MF (JX s) r<0)) = !decide ((if JX s v=true then 0 else if MF (JX s) r<0 then -1 else MF (JX s) r+1)<0);cases h:JX s v
   .rw[if_neg (by decide)]
    by_cases h2:MF (JX s) r<0
    .rw[if_pos h2,decide_eq_true h2]; rfl
    .have:¬MF (JX s) r+1<0:=by omega
     rw[if_neg h2,decide_eq_false h2,decide_eq_false this]; rfl
   .rw[if_pos rfl]; rfl
def wrg (p:Pr)(e:Ex):Int:=if NJ p=0∧exE e=0 then plE p.vars e else 1
section
variable (G:Nat->AV)
set_option maxHeartbeats 2000000 in
theorem AUT (p:Pr)(hs:PrS p)(e:Ex)(hw:wt e<=1048576)(h:Hp):PCall (En G) 42 [.agg (EE p),.agg (EF e)] h (.int .i64 (wrg p e)):=by
 refine ACalls.pure0 rfl ?_;refine acN Tryz.func42 rfl ?_;show awp _ _ _ _ _ (EK _ [.tmp 4] _);have hwn:=AOS hw;have ge:=CU h (ABlk.live 5 [EE p]);have hx1:ext h (h++[ABlk.live 5 [EE p]]):=(ext.rfl' h).app _;simp -implicitDefEqProofs only[vQ,BD,↓reduceIte,jA,enP,UN,bxE];have gp:(h++[ABlk.live 5 [EE p]]++[ABlk.live 4 [EF e]])[h.length]?=some (.live 5 [EE p]):=BO ge;have gx:(h++[ABlk.live 5 [EE p]]++[ABlk.live 4 [EF e]])[(h++[ABlk.live 5 [EE p]]).length]?=some (.live 4 [EF e]):=CU _ _;have hx:ext h (h++[ABlk.live 5 [EE p]]++[ABlk.live 4 [EF e]]):=hx1.app _;generalize h++[ABlk.live 5 [EE p]]++[ABlk.live 4 [EF e]]=A at gp gx hx|-;generalize (h++[ABlk.live 5 [EE p]]).length=xb at gx|-;generalize h.length=pb at gp|-;have lp:DF Tryz.prog A 27 (.ptr pb 0 0)=some (.agg (EE p)):=by rw[GV UY TF gp (row:=EE p) rfl (by rw[JE]; exact Nat.le_refl 5)]; rfl
 have le:=JH gx;have lvs:DF Tryz.prog A 22 (.ptr pb 0 0)=some (.sl p.vm 4 (p.vars.map FI)):=by rw[DJ TU gp (row:=EE p) rfl]; rfl
 simp -implicitDefEqProofs only[vQ,BD,↓reduceIte,lp];refine(AAG G p hs A).use ?_;simp -implicitDefEqProofs only[vQ,CV,BD,↓reduceIte,enP,bne];by_cases hv:NJ p=0
 case neg =>
  have:(NJ p==0)=false:=by simpa using hv
  simp -implicitDefEqProofs only[vQ,CV,BD,EY,↓reduceIte,jA,this];exact⟨by unfold wrg; rw[if_neg (fun q=>hv q.1)],hx⟩
 simp -implicitDefEqProofs only[vQ,CV,BD,↓reduceIte,jA,jZ,enP,show(NJ p==0)=true by simpa using hv,le];refine(ABN G e A hw).use ?_;simp -implicitDefEqProofs only[vQ,CV,BD,↓reduceIte,jA,enP,bne];by_cases he:exE e=0
 case neg =>
  have:(exE e==0)=false:=by simpa using he
  simp -implicitDefEqProofs only[vQ,BD,↓reduceIte,this];exact⟨by unfold wrg; rw[if_neg (fun q=>he q.2)],hx⟩
 simp -implicitDefEqProofs only[vQ,BD,↓reduceIte,jA,jZ,enP,show(exE e==0)=true by simpa using he,le];have hwrg:wrg p e=plE p.vars e:=by unfold wrg; rw[if_pos ⟨hv,he⟩]
 rw[hwrg];refine(arrays_ref G e hwn A).use ?_;intro va hva;have hal:=AT8 (pre e) []
 have hla:LX Tryz.prog 97 va=some (.int .i64 ((aL [] (pre e)).length:Nat))∧True:=by
  rcases hva with⟨h1,k,rfl⟩|rfl
  .rw[h1]; exact⟨(Y6.1 .nil k []),trivial⟩
  .exact⟨by rw[Y6.1]; simp,trivial⟩
 have hary:decide ((((aL [] (pre e)).length:Nat):Int)>0)=AB7 e:=by
  unfold AB7;have hq:(aL [] (pre e)).isEmpty = !(pre e).any NT:=by simpa using hal
  cases hz:(pre e).any NT
  .rw[hz] at hq
   have:aL [] (pre e)=[]:=by simpa using hq
   rw[this]; rfl
  .rw[hz] at hq
   have:aL [] (pre e)≠[]:=fun q=>by rw[q] at hq; cases hq
   have:=List.length_pos_iff.2 this;exact decide_eq_true (by omega)
 simp -implicitDefEqProofs only[vQ,BD,↓reduceIte,enP,hla.1,hary];cases ha:AB7 e
 case true =>
  simp -implicitDefEqProofs only[vQ,BD,↓reduceIte];exact⟨by unfold plE; rw[if_pos ha],hx⟩
 simp -implicitDefEqProofs only[vQ,BD,↓reduceIte,jA,enP,le];refine(APJ G e hwn A).use ?_;intro vn hvn
 have hfr:AAQ p.vars e=(vL [] (pre e)).any fun s=>decide (plc p.vars s<0):=by
  rw[AT5 _ (ARL p.vars)];unfold AAQ U2;simp
 have hpl:plE p.vars e=if(vL [] (pre e)).any (fun s=>decide (plc p.vars s<0))=true then 7 else 0:=by unfold plE; rw[if_neg (by rw[ha]; decide),hfr]
 rw[hpl]
 have hnl:(vL [] (pre e)).length<=1048576:=by
  have:=AKU (pre e) [];have:=XM e;simp at *; omega
 generalize vL [] (pre e)=L at hvn hnl|-
 have hln:LX Tryz.prog 97 vn=some (.int .i64 (L.length:Nat)):=by
  rcases hvn with⟨h1,k,rfl⟩|rfl
  .rw[h1]; exact Y6.1 .nil k []
  .rw[Y6.1]; simp
 have hlx:∀i:Nat,i<L.length->J8 1 A vn (.int .i64 (i:Nat))=some (.fptr 1 (L.map encStr) i 0):=by
  intro i hi;rcases hvn with⟨h1,k,rfl⟩|rfl
  .rw[h1] at hi; cases hi
  .exact EZ hi
 have hld:∀(i:Nat) (hi:i<L.length),DF Tryz.prog A 9 (.fptr 1 (L.map encStr) i 0)=some (.str L[i]):=fun i hi=>by rw[FX ag9 hi]; rfl
 have lnm:∀(j:Nat) (hj:j<p.vars.length),DF Tryz.prog A 9 (.fptr 4 (p.vars.map FI) j 0)=some (.str p.vars[j].name):=fun j hj=>by rw[FX ag9 hj]; rfl
 simp -implicitDefEqProofs only[vQ,BD,↓reduceIte];refine D7 (fun m F H=>∃i,m+i=L.length∧H=A∧F 2=.ptr pb 0 0∧F 5=vn∧F 6=.int .i64 (i:Nat)∧L.any (fun s=>decide (plc p.vars s<0))=(L.drop i).any fun s=>decide (plc p.vars s<0)) L.length ⟨0,rfl,rfl,by simp -implicitDefEqProofs only[AA,↓reduceIte,jA],by simp -implicitDefEqProofs only[AA,↓reduceIte,jA],by simp -implicitDefEqProofs only[AA,↓reduceIte]; rfl,rfl⟩ ?_;rintro m F H ⟨i,hm,rfl,f2,f5,f6,hany⟩;have ec:decide (((i:Nat):Int)<((L.length:Nat):Int))=decide (i<L.length):=by rw[decide_eq_decide]; omega
 simp -implicitDefEqProofs only[vQ,BD,↓reduceIte,jA,enP,f5,f6,hln,ec];refine C9 (fun hc=>?_) (fun hc=>?_)
 .have hi:i<L.length:=by simpa using hc
  rw[zU hi,List.any_cons] at hany;have hpc:=AOP L[i] p.vars;generalize hs':L[i]=sn at hany hpc;have hld1:=hld i hi;rw[hs'] at hld1;simp -implicitDefEqProofs only[vQ,BD];refine GI 2 (fun F H'=>H'=H∧F 2=.ptr pb 0 0∧F 5=vn∧F 6=.int .i64 (i:Nat)∧F 7=.bool (!decide (plc p.vars sn<0))) (fun _ _=>False) ?_ ?_ (fun _ _ q=>q.elim)
  .refine D7 (fun m F H'=>∃(j:Nat) (b:Bool),m+j=p.vars.length∧H'=H∧F 2=.ptr pb 0 0∧F 5=vn∧F 6=.int .i64 (i:Nat)∧F 7=.bool b∧F 8=.int .i64 (j:Nat)∧(b||(p.vars.drop j).any fun v=>v.name.toList==sn.toList) = !decide (plc p.vars sn<0)) p.vars.length
    ⟨0,false,rfl,rfl,by simp -implicitDefEqProofs only[AA,↓reduceIte,jA]; exact f2,by simp -implicitDefEqProofs only[AA,↓reduceIte,jA]; exact f5,by simp -implicitDefEqProofs only[AA,↓reduceIte,jA]; exact f6,by simp -implicitDefEqProofs only[AA,↓reduceIte,jA],by simp -implicitDefEqProofs only[AA,↓reduceIte]; rfl,by rw[qG]; exact hpc⟩ ?_
   clear f2 f5 f6;rintro n F H' ⟨j,b,hn,rfl,f2,f5,f6,f7,f8,hb⟩;have ec:decide (((j:Nat):Int)<(((p.vars.map FI).length:Nat):Int))=decide (j<p.vars.length):=by rw[List.length_map,decide_eq_decide]; omega
   simp -implicitDefEqProofs only[vQ,BD,↓reduceIte,jA,enP,RZ,KC,f2,f8,lvs,ec];refine C9 (fun hc=>?_) (fun hc=>?_)
   .have hj:j<p.vars.length:=by simpa using hc
    rw[zU hj,List.any_cons] at hb;simp -implicitDefEqProofs only[vQ];refine GL (by kernel_rfl) ?_;have hpv:=hs.vars;cases b
    .simp -implicitDefEqProofs only[vQ,CV,BD,LH,↓reduceIte,jA,jM,enP,QP,KC,O1,ALK,f2,f5,f6,f7,f8,lvs,EZ hj,lnm j hj,hlx i hi,hld1,LH,wrap_succ (show j<9223372036854775807 by omega)]
     exact⟨n-1,by omega,j+1,_,by omega,trivial,by trivial,by trivial,by trivial,by trivial,by trivial,by rw[<-hb,qG]⟩
    .simp -implicitDefEqProofs only[vQ,CV,BD,EY,↓reduceIte,jA,jM,enP,f2,f5,f6,f7,f8,wrap_succ (show j<9223372036854775807 by omega)]
     exact⟨n-1,by omega,j+1,true,by omega,trivial,by trivial,by trivial,by trivial,by trivial,by trivial,by rw[<-hb]; rfl⟩
   .have hj:¬j<p.vars.length:=by simpa using hc
    rw[zF (by omega),List.any_nil,Bool.or_false] at hb;simp -implicitDefEqProofs only[vQ,↓reduceIte,jA];exact⟨trivial,f2,f5,f6,by rw[f7,hb]⟩
  .clear f2 f5 f6
   rintro F H' ⟨rfl,f2,f5,f6,f7⟩;simp -implicitDefEqProofs only[vQ,BD,↓reduceIte,f7];by_cases hlt:plc p.vars sn<0
   .rw[decide_eq_true hlt]
    simp -implicitDefEqProofs only[vQ,BD,↓reduceIte,jZ];refine⟨?_,hx⟩;rw[hany,decide_eq_true hlt]; rfl
   .rw[decide_eq_false hlt] at hany|-
    simp -implicitDefEqProofs only[vQ,BD,↓reduceIte,jA,jZ,enP,f6,wrap_succ (show i<9223372036854775807 by omega)];exact⟨m-1,by omega,i+1,by omega,trivial,by trivial,by trivial,by trivial,by rw[hany,qG]⟩
 .have hi:¬i<L.length:=by simpa using hc
  rw[zF (by omega),List.any_nil] at hany;simp -implicitDefEqProofs only[vQ,BD,↓reduceIte];exact⟨by rw[hany]; rfl,hx⟩
end
end Go.Proofs.YtgnoolgeijmlaaaGreatDoor.Bl
