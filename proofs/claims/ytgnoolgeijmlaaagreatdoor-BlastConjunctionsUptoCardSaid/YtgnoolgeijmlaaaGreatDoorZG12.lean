/- Part 12 of the proof (Gj, Gk, Gl, Gm, Gn, D3, Go); no condition. -/
import Derived.Test.YtgnoolgeijmlaaaGreatDoorZG11
set_option linter.unusedVariables false
set_option linter.unusedSimpArgs false
set_option maxRecDepth 8000
namespace Go.Proofs.YtgnoolgeijmlaaaGreatDoor.Bl
open Sm Bins Cov Xe Wd Go.Proofs.YtgnoolgeijmlaaaGreatDoor.Bd Go.RowKit
open Bool renaming not_false→jC,true_and→qJ,or_false→jV,false_or→qF
open Int renaming reduceBEq→zG,eq_ofNat_of_zero_le→qM,toNat_natCast→qV
open List renaming drop_eq_getElem_cons→zV,append_assoc→zJ,getD_eq_getElem?_getD→zM,map_cons→jF,map_nil→jE,append_nil→jD,replicate→jJ,length_take→zU,getElem?_cons_succ→jT,getElem?_cons_zero→jS,getElem?_set_ne→jU,length_set→zZ,drop_eq_nil_of_le→zF,length_cons→zY,getElem?_eq_getElem→jX,getElem_mem→zC,getElem?_map→zL,length_map→jR,length→wH
open Nat renaming le_of_ble_eq_true→jH,reduceEqDiff→jA,add_zero→jL,reduceAdd→jO,zero_add→jG,le_refl→jQ
open Option renaming getD_some→jB,getD_none→jM,map_none→wB,map_some→qU
theorem AKB {α:Type}(xs:List Nat)(g j:Nat)(hj:j < xs.length)(d:Wrd)(K:Wrd→M α):((AEA (xs.drop j) g).bnd fun r=>K (d++r))=(JR (xs.getD j 0) g).bnd fun a=>(AEA (xs.drop (j+1)) g).bnd fun r=>K ((d++[a])++r):=by
 rw[zV hj,getD_at hj];show((JR xs[j] g).bnd fun a=>(AEA (xs.drop (j+1)) g).bnd fun s=>ret (a :: s)).bnd _=_;rw[GH];refine congrArg (M.bnd _) (funext fun a => ?_);rw[GH];refine congrArg (M.bnd _) (funext fun r => ?_);show K (d++(a :: r))=_;rw[zJ]; rfl
theorem AE9 (x:Wrd)(n j:Nat)(h:j < n):(x.take n).getD j 0=x.getD j 0:=by
 rw[zM,zM,List.getElem?_take,if_pos h]
section
variable (G:Nat→AV) {bb:Nat} {rest:List AV}
set_option maxHeartbeats 2000000 in
theorem AGP {H:Hp}{l:Dg}(s:PS bb rest l H)(x y:Wrd)(hx:x.length=16)(hy:y.length=16)(ox:LOk l x)(oy:LOk l y):Ct G bb rest 146 [.ptr bb 0 0,wA x,wA y] H l (XG x 0 y (cst 0)) wA:=by
 intro base Bad hk hb;generalize hT:XG x 0 y (cst 0) l=TOT at hb;refine acN Tryz.func146 rfl ?_;show awp _ _ _ _ _ (EK _ [.cell 6 74] _);simp -implicitDefEqProofs only[vQ,BD,↓reduceIte,jA,enP,QJ _ hx,QJ _ hy,UH];refine(pcX (OC G 0 (by omega) _)).use ?_;simp -implicitDefEqProofs only[vQ,BD,↓reduceIte,jA,enP,jM,UH];generalize hX:H++[ABlk.live 16 [cW x]]++[ABlk.live 16 [cW y]]++[ABlk.live 16 [cW (jJ 16 0)]]=X;have hxe:ext H X:=by rw[← hX]; exact(((ext.rfl' H).app _).app _).app _
 have q4:isW X H.length x:=by rw[← hX]; exact BR (BR (CU _ _))
 have q5:isW X (H.length+1) y:=by rw[← hX]; exact BR (IG (by simp))
 have q6:isW X (H.length+2) (jJ 16 0):=by rw[← hX]; exact IG (by simp)
 have sX:=s.ext hxe;have kX:=Kb.ofExt (bb:=bb) hxe;have e1:(H++[ABlk.live 16 [cW x]]).length=H.length+1:=by simp
 have e2:(H++[ABlk.live 16 [cW x]]++[ABlk.live 16 [cW y]]).length=H.length+2:=by simp
 have e3:X.length=H.length+3:=by rw[← hX]; simp
 rw[e1,e2,e3];have sl:=s.lt
 have hst0:FD Tryz.prog (X++[ABlk.live 16 [cW (jJ 16 0)]]) 74 (.ptr (H.length+3) 0 0) (wA (cst 0))=some (X++[ABlk.live 16 [cW (cst 0)]]):=by
  rw[← e3,UZ (CU _ _) (by simp) (G8 0),JH]
 simp -implicitDefEqProofs only[vQ,BD,hst0];have q7:isW (X++[ABlk.live 16 [cW (cst 0)]]) (H.length+3) (cst 0):=IG e3;have q4:isW (X++[ABlk.live 16 [cW (cst 0)]]) H.length x:=BR q4;have q5:isW (X++[ABlk.live 16 [cW (cst 0)]]) (H.length+1) y:=BR q5;have q6:isW (X++[ABlk.live 16 [cW (cst 0)]]) (H.length+2) (jJ 16 0):=BR q6;have sX:=sX.app (ABlk.live 16 [cW (cst 0)]);have kX:=kX.app (ABlk.live 16 [cW (cst 0)]);have hl3:H.length+3 < (X++[ABlk.live 16 [cW (cst 0)]]).length:=by simp; omega
 generalize X++[ABlk.live 16 [cW (cst 0)]]=X at q4 q5 q6 q7 sX kX hl3 ⊢;refine F8 0 (fun F H' => ∃ d l',d.length=16∧TOT=some (d,l')∧PS bb rest l' H'∧Kb bb H H'∧isW H' (H.length+3) d∧isW H' (H.length+2) (jJ 16 0)∧F 6 = .ptr (H.length+2) 0 0∧F 7 = .ptr (H.length+3) 0 0) (fun _ _=>False) ?_ ?_ (fun _ _ q=>q.elim)
 ·refine DX (fun m F H' => ∃ k d l',m+k=16∧d.length=16∧LOk l' d∧XG x k (y.drop k) d l'=TOT∧Xt l l'∧PS bb rest l' H'∧Kb bb H H'∧isW H' H.length x∧isW H' (H.length+1) y∧isW H' (H.length+2) (jJ 16 0)∧isW H' (H.length+3) d∧H.length+3 < H'.length ∧
   F 0 = .ptr bb 0 0∧F 4 = .ptr H.length 0 0∧F 5 = .ptr (H.length+1) 0 0∧F 6 = .ptr (H.length+2) 0 0∧F 7 = .ptr (H.length+3) 0 0∧F 12 = .int .i64 (k:Nat)) 16
   ⟨0,cst 0,l,rfl,G8 0,LOk.cst s.v 0,hT,Xt.rfl' l,sX,kX,q4,q5,q6,q7,hl3,by simp -implicitDefEqProofs only[vQ,↓reduceIte,jA],by simp -implicitDefEqProofs only[AA,↓reduceIte,jA],by simp -implicitDefEqProofs only[AA,↓reduceIte,jA],by simp -implicitDefEqProofs only[AA,↓reduceIte,jA],by simp -implicitDefEqProofs only[AA,↓reduceIte,jA],by simp -implicitDefEqProofs only[AA,↓reduceIte]; rfl⟩ ?_
  clear q4 q5 q6 q7 sX kX hl3;rintro m F H0 ⟨k,s0,l0,hm,hd,od,hS,xl,s',k',q4,q5,q6,q7,hl3,f0,f4,f5,f6,f7,f12⟩;simp -implicitDefEqProofs only[vQ,BD,↓reduceIte,enP,f12,MH];refine CZ (fun hc => ?_) (fun hc => ?_)
  ·have hk':k < 16:=by simpa using hc
   have hyl:k < y.length:=by omega
   have hyk:=(oy.go xl).getD hyl;have oxx:=ox.go xl;rw[IU hyl] at hS;generalize hyv:y.getD k 0=g at hS hyk
   let K:Wrd→M Wrd:=fun p=>(PD s0 (jJ k 0++p) 0).bnd fun s'=>XG x (k+1) (y.drop (k+1)) s'
   have hS:((AEA ((x.take (16 - k)).drop 0) g).bnd fun r=>K ([]++r)) l0=TOT:=hS;simp -implicitDefEqProofs only[vQ,BD,↓reduceIte,jA,enP,f12,UH];generalize hB:H0++[ABlk.live 16 [cW (jJ 16 0)]]=B;have q9:isW B H0.length (jJ 16 0):=by rw[← hB]; exact CU _ _
   have q4:isW B H.length x:=by rw[← hB]; exact BR q4
   have q5:isW B (H.length+1) y:=by rw[← hB]; exact BR q5
   have q6:isW B (H.length+2) (jJ 16 0):=by rw[← hB]; exact BR q6
   have q7:isW B (H.length+3) s0:=by rw[← hB]; exact BR q7
   have sB:PS bb rest l0 B:=by rw[← hB]; exact s'.app _
   have kB:Kb bb H B:=by rw[← hB]; exact k'.app _
   have hl4:H0.length < B.length:=by rw[← hB]; simp
   clear hB s' k'
   refine F8 2 (fun F H' => ∃ d l',d.length=16 - k∧K d l'=TOT∧LOk l' d∧Xt l0 l'∧PS bb rest l' H'∧Kb bb H H'∧isW H' H.length x∧isW H' (H.length+1) y∧isW H' (H.length+2) (jJ 16 0)∧isW H' (H.length+3) s0∧isW H' H0.length (jJ k 0++d)∧H.length+3 < H'.length ∧
    F 0 = .ptr bb 0 0∧F 4 = .ptr H.length 0 0∧F 5 = .ptr (H.length+1) 0 0∧F 6 = .ptr (H.length+2) 0 0∧F 7 = .ptr (H.length+3) 0 0∧F 12 = .int .i64 (k:Nat)∧F 9 = .ptr H0.length 0 0) (fun _ _=>False) ?_ ?_ (fun _ _ q=>q.elim)
   ·refine DX (fun m F H' => ∃ j d l',m+(k+j)=16∧d.length=j∧LOk l' d∧((AEA ((x.take (16 - k)).drop j) g).bnd fun r=>K (d++r)) l'=TOT∧Xt l0 l'∧PS bb rest l' H'∧Kb bb H H'∧isW H' H.length x∧isW H' (H.length+1) y∧isW H' (H.length+2) (jJ 16 0)∧isW H' (H.length+3) s0∧isW H' H0.length ((jJ k 0++d)++jJ (16 - (k+j)) 0)∧H.length+3 < H'.length∧H0.length < H'.length ∧
     F 0 = .ptr bb 0 0∧F 4 = .ptr H.length 0 0∧F 5 = .ptr (H.length+1) 0 0∧F 6 = .ptr (H.length+2) 0 0∧F 7 = .ptr (H.length+3) 0 0∧F 12 = .int .i64 (k:Nat)∧F 9 = .ptr H0.length 0 0∧F 8 = .int .i64 (k:Nat)∧F 10 = .int .i64 ((k+j:Nat):Int)) (16 - k)
     ⟨0,[],l0,by omega,rfl,LOk.nil _,hS,Xt.rfl' l0,sB,kB,q4,q5,q6,q7,by rw[jD,List.replicate_append_replicate,show k+(16 - (k+0))=16 by omega]; exact q9,by omega,hl4,by simp -implicitDefEqProofs only[AA,↓reduceIte,jA]; exact f0,by simp -implicitDefEqProofs only[AA,↓reduceIte,jA]; exact f4,by simp -implicitDefEqProofs only[AA,↓reduceIte,jA]; exact f5,by simp -implicitDefEqProofs only[AA,↓reduceIte,jA]; exact f6,by simp -implicitDefEqProofs only[AA,↓reduceIte,jA]; exact f7,by simp -implicitDefEqProofs only[AA,↓reduceIte,jA]; exact f12,by simp -implicitDefEqProofs only[AA,↓reduceIte,jA],by simp -implicitDefEqProofs only[AA,↓reduceIte,jA],by simp -implicitDefEqProofs only[vQ,↓reduceIte]⟩ ?_
    clear q4 q5 q6 q7 q9 sB kB hl4 f0 f4 f5 f6 f7 f12 hS;rintro m F H1 ⟨j,d,l1,hm,hdj,od1,hS,x1,s1,k1,q4,q5,q6,q7,q9,hl1,hl2,f0,f4,f5,f6,f7,f12,f9,f8,f10⟩;simp -implicitDefEqProofs only[vQ,BD,↓reduceIte,enP,f10,MH];refine CZ (fun hc => ?_) (fun hc => ?_)
    ·have hj:k+j < 16:=by simpa using hc
     have hj':j < (x.take (16 - k)).length:=by rw[zU]; omega
     rw[AKB _ _ _ hj',AE9 _ _ _ (by omega)] at hS;have hxl:j < x.length:=by omega
     have hxj:=(oxx.go x1).getD hxl;have hgk:=x1.lt hyk;have hDl:(jJ k 0++d).length=k+j:=by simp [hdj]
     have hsub:IntKind.i64.wrap (((k+j:Nat):Int) - (k:Nat))=((j:Nat):Int):=by rw[wrap_i64 (by omega) (by omega)]; omega
     have ldy:=ldW q5 hyl;rw[hyv] at ldy;simp -implicitDefEqProofs only[vQ,f10];refine ES (.ones [0,1,2,3,4,5,6,7,8,9] (.alt 10 (.ones [11,12] .done) .non)) (by kernel_rfl) ?_;simp only[DN,IA,jT,jS];simp -implicitDefEqProofs only[vQ,BD,KZ,↓reduceIte,jA,jO,enP,f0,f4,f5,f8,f10,hsub,QG (show j < 16 by omega),QG hk',ldW q4 hxl,ldy];refine⟨(KT G s1 _ _ hxj hgk).use hS hb (hk.trans k1) ?_,trivial⟩;intro a l2 H2 ea hS2 s2 k2;obtain⟨x2,p2⟩:=apX s1.v hxj hgk hgk ea;have q4:=k2.keep _ _ q4 (by omega);have q5:=k2.keep _ _ q5 (by omega);have q6:=k2.keep _ _ q6 (by omega);have q7:=k2.keep _ _ q7 (by omega);have q9:=k2.keep _ _ q9 (by omega);have hst:=stW (n:=a) q9 (i:=k+j) (by rw[IJ hDl (by omega)]; exact hj);rw[MP hDl hj] at hst;have kl:=k2.len;simp -implicitDefEqProofs only[vQ,BD,↓reduceIte,jA,enP,jM,f9,f10,QG hj,hst,wrap_succ (show k+j < 9223372036854775807 by omega)];have ne : ∀ {c:Nat} {w:Wrd} {B:ABlk},isW H2 c w→c≠H0.length→isW (H2.set H0.length B) c w:=fun q hne=>by unfold isW; rw[jU (Ne.symm hne)]; exact q
     refine⟨m - 1,by omega,j+1,d++[a],l2,by omega,by simp [hdj],(od1.go x2).app (LOk.cons p2 (LOk.nil _)),hS2,x1.trans x2,s2.set (by omega) _,(k1.trans k2).setN (by omega) _,ne q4 (by omega),ne q5 (by omega),ne q6 (by omega),ne q7 (by omega),by rw[← zJ]; exact DZ q9,by rw[zZ]; omega,by rw[zZ]; omega,by trivial,by trivial,by trivial,by trivial,by trivial,by trivial,by trivial,by trivial,by trivial⟩
    ·have hj:k+j=16:=by have:=hc; simp at this; omega
     rw[zF (show(x.take (16 - k)).length≤j by rw[zU]; omega)] at hS;have hS:K (d++[]) l1=TOT:=hS;rw[jD] at hS;rw[hj,Nat.sub_self,List.replicate_zero,jD] at q9;simp -implicitDefEqProofs only[vQ,↓reduceIte,jA];exact⟨d,l1,by omega,hS,od1,x1,s1,k1,q4,q5,q6,q7,q9,hl1,f0,f4,f5,f6,f7,f12,f9⟩
   ·clear q4 q5 q6 q7 q9 sB kB hl4 f0 f4 f5 f6 f7 f12 hS
    rintro F H1 ⟨d,l1,hdj,hS,od1,x1,s1,k1,q4,q5,q6,q7,q9,hl1,f0,f4,f5,f6,f7,f12,f9⟩;have hDl:(jJ k 0++d).length=16:=by simp [hdj]; omega
    have oD:LOk l1 (jJ k 0++d):=(LOk.zeros s1.v k).app od1;simp -implicitDefEqProofs only[vQ,BD,↓reduceIte,jA,enP,f0,f7,f9,IE q7 hd,IE q9 hDl];refine(YK G s1 s0 _ 0 hd hDl (od.go x1) oD s1.v.p0).use hS hb (hk.trans k1) ?_;intro r l2 H2 er hS2 s2 k2;obtain⟨_,x2,_,⟨r1,r2⟩,_⟩:=PN s0 _ l1 0 s1.v (by rw[hd,hDl]) (od.go x1) oD s1.v.p0 r l2 er;have q4:=k2.keep _ _ q4 (by omega);have q5:=k2.keep _ _ q5 (by omega);have q6:=k2.keep _ _ q6 (by omega);have q7:=k2.keep _ _ q7 (by omega);have kl:=k2.len;simp -implicitDefEqProofs only[vQ,BD,↓reduceIte,jA,enP,jM,f7,UZ q7 hd (show r.length=16 by omega),f12,wrap_succ (show k < 9223372036854775807 by omega)];have ne : ∀ {c:Nat} {w:Wrd} {B:ABlk},isW H2 c w→c≠H.length+3→isW (H2.set (H.length+3) B) c w:=fun q hne=>by unfold isW; rw[jU (Ne.symm hne)]; exact q
    refine⟨m - 1,by omega,k+1,r,l2,by omega,by omega,r2,hS2,xl.trans (x1.trans x2),s2.set (by omega) _,(k1.trans k2).setN (by omega) _,ne q4 (by omega),ne q5 (by omega),ne q6 (by omega),DZ q7,by rw[zZ]; omega,by trivial,by trivial,by trivial,by trivial,by trivial,by trivial⟩
  ·have hk':k=16:=by have:=hc; simp at this; omega
   subst hk';rw[zF (show y.length≤16 by omega)] at hS;have hS:ret s0 l0=TOT:=hS;simp -implicitDefEqProofs only[vQ,↓reduceIte,jA];exact⟨s0,l0,hd,hS.symm,s',k',q7,q6,f6,f7⟩
 ·rintro F H' ⟨d,l',hd,e,s',k',q7,q6,f6,f7⟩
  simp -implicitDefEqProofs only[vQ,BD,↓reduceIte,jA,enP,jM,f6,f7,IE q7 hd,UZ q6 (by simp) hd];rw[IY _ _ _ _ _ _ _ _ _ (show _=AV.ptr (H.length+2) 0 0 by first | exact f6 | (simp -implicitDefEqProofs only[f6])),IE (DZ q6) hd];exact⟨_,rfl,d,l',e,rfl,s'.set (by omega) _,k'.setN (by omega) _⟩
end
def NT (left:Bool):Int:=if left=true then 1 else -1
theorem AN5 {left:Bool}{s i j:Nat}(hi:i < 16)(h:frL left s i=some j):j < 16∧(i:Int) - NT left * s=(j:Nat):=by
 unfold frL at h;unfold NT;cases left
 ·rw[if_neg (by simp)] at h
  split at h
  ·cases h; refine⟨by omega,?_⟩; simp
  ·cases h
 ·rw[if_pos rfl] at h
  split at h
  ·cases h; refine⟨by omega,?_⟩; simp; omega
  ·cases h
theorem AN6 {left:Bool}{s i:Nat}(h:frL left s i=none):(i:Int) - NT left * s < 0∨16≤(i:Int) - NT left * s:=by
 unfold frL at h;unfold NT;cases left
 ·rw[if_neg (by simp)] at h
  split at h
  ·cases h
  ·right; simp; omega
 ·rw[if_pos rfl] at h
  split at h
  ·cases h
  ·left; simp; omega
theorem AIM {α:Type}(t:Nat)(x:Wrd)(fr:Nat→Option Nat)(xs:List Nat)(i:Nat)(hi:i < xs.length)(d:Wrd)(K:Wrd→M α):((shI t x fr (xs.drop i) i).bnd fun r=>K (d++r))=match fr i with
  | some j=>(JR t (x.getD j 0)).bnd fun a=>(oOr (xs.getD i 0) a).bnd fun b=>(shI t x fr (xs.drop (i+1)) (i+1)).bnd fun r=>K ((d++[b])++r)
  | none=>(shI t x fr (xs.drop (i+1)) (i+1)).bnd fun r=>K ((d++[xs.getD i 0])++r):=by
 rw[zV hi,getD_at hi]
 cases hf:fr i with
 | some j =>
   rw[show shI t x fr (xs[i] :: xs.drop (i+1)) i=(JR t (x.getD j 0)).bnd fun a=>(oOr xs[i] a).bnd fun b=>(shI t x fr (xs.drop (i+1)) (i+1)).bnd fun s=>ret (b :: s) by rw[shI,hf],GH];refine congrArg (M.bnd _) (funext fun a => ?_);rw[GH];refine congrArg (M.bnd _) (funext fun b => ?_);rw[GH];refine congrArg (M.bnd _) (funext fun r => ?_);show K (d++(b :: r))=_;rw[zJ]; rfl
 | none =>
   rw[show shI t x fr (xs[i] :: xs.drop (i+1)) i=(shI t x fr (xs.drop (i+1)) (i+1)).bnd fun s=>ret (xs[i] :: s) by rw[shI,hf],GH];refine congrArg (M.bnd _) (funext fun r => ?_);show K (d++(xs[i] :: r))=_;rw[zJ]; rfl
theorem AX3 {x y:Wrd}{l l':Dg}{t r:Nat}(v:VD l)(hl:x.length=y.length)(ox:LOk l x)(oy:LOk l y)(ht:t < l.length)(e:eqL x y t l=some (r,l')):Xt l l'∧r < l'.length:=by
 obtain⟨_,x1,_,r1,_⟩:=VI x y l t v hl ox oy ht r l' e;exact⟨x1,r1⟩
theorem LOk.atD {l:Dg}{xs:List Nat}(v:VD l)(h:LOk l xs)(n:Nat):xs.getD n 0 < l.length:=by
 by_cases hn:n < xs.length
 ·rw[getD_at hn]; exact h.at hn
 ·rw[zM,List.getElem?_eq_none (by omega)]; exact v.p0
section
variable (G:Nat→AV) {bb:Nat} {rest:List AV}
set_option maxHeartbeats 4000000 in
theorem ACS {H:Hp}{l:Dg}(s:PS bb rest l H)(left:Bool)(x y:Wrd)(hx:x.length=16)(hy:y.length=16)(ox:LOk l x)(oy:LOk l y):Ct G bb rest 148 [.ptr bb 0 0,wA x,wA y,.int .i64 (NT left)] H l (shS left x y 16 0 (cst 0)) wA:=by
 intro base Bad hk hb;generalize hT:shS left x y 16 0 (cst 0) l=TOT at hb;refine acN Tryz.func148 rfl ?_;show awp _ _ _ _ _ (EK _ [.cell 8 74] _);simp -implicitDefEqProofs only[vQ,BD,↓reduceIte,jA,enP,QJ _ hx,QJ _ hy,UH];refine(pcX (OC G 0 (by omega) _)).use ?_;simp -implicitDefEqProofs only[vQ,BD,↓reduceIte,jA,enP,jM,UH];generalize hX:H++[ABlk.live 16 [cW x]]++[ABlk.live 16 [cW y]]++[ABlk.live 16 [cW (jJ 16 0)]]=X;have hxe:ext H X:=by rw[← hX]; exact(((ext.rfl' H).app _).app _).app _
 have q5:isW X H.length x:=by rw[← hX]; exact BR (BR (CU _ _))
 have q6:isW X (H.length+1) y:=by rw[← hX]; exact BR (IG (by simp))
 have q8:isW X (H.length+2) (jJ 16 0):=by rw[← hX]; exact IG (by simp)
 have sX:=s.ext hxe;have kX:=Kb.ofExt (bb:=bb) hxe;have e1:(H++[ABlk.live 16 [cW x]]).length=H.length+1:=by simp
 have e2:(H++[ABlk.live 16 [cW x]]++[ABlk.live 16 [cW y]]).length=H.length+2:=by simp
 have e3:X.length=H.length+3:=by rw[← hX]; simp
 rw[e1,e2,e3];have sl:=s.lt
 have hst0:FD Tryz.prog (X++[ABlk.live 16 [cW (jJ 16 0)]]) 74 (.ptr (H.length+3) 0 0) (wA (cst 0))=some (X++[ABlk.live 16 [cW (cst 0)]]):=by
  rw[← e3,UZ (CU _ _) (by simp) (G8 0),JH]
 simp -implicitDefEqProofs only[vQ,BD,hst0];have q9:isW (X++[ABlk.live 16 [cW (cst 0)]]) (H.length+3) (cst 0):=IG e3;have q5:isW (X++[ABlk.live 16 [cW (cst 0)]]) H.length x:=BR q5;have q6:isW (X++[ABlk.live 16 [cW (cst 0)]]) (H.length+1) y:=BR q6;have q8:isW (X++[ABlk.live 16 [cW (cst 0)]]) (H.length+2) (jJ 16 0):=BR q8;have sX:=sX.app (ABlk.live 16 [cW (cst 0)]);have kX:=kX.app (ABlk.live 16 [cW (cst 0)]);generalize X++[ABlk.live 16 [cW (cst 0)]]=X at q5 q6 q8 q9 sX kX ⊢;refine F8 0 (fun F H' => ∃ d l',d.length=16∧TOT=some (d,l')∧PS bb rest l' H'∧Kb bb H H'∧isW H' (H.length+3) d∧isW H' (H.length+2) (jJ 16 0)∧F 8 = .ptr (H.length+2) 0 0∧F 9 = .ptr (H.length+3) 0 0) (fun _ _=>False) ?_ ?_ (fun _ _ q=>q.elim)
 ·refine DX (fun m F H' => ∃ k d l',m+k=16∧d.length=16∧LOk l' d∧shS left x y m k d l'=TOT∧Xt l l'∧PS bb rest l' H'∧Kb bb H H'∧isW H' H.length x∧isW H' (H.length+1) y∧isW H' (H.length+2) (jJ 16 0)∧isW H' (H.length+3) d ∧
   F 0 = .ptr bb 0 0∧F 3 = .int .i64 (NT left)∧F 5 = .ptr H.length 0 0∧F 6 = .ptr (H.length+1) 0 0∧F 8 = .ptr (H.length+2) 0 0∧F 9 = .ptr (H.length+3) 0 0∧F 15 = .int .i64 (k:Nat)) 16
   ⟨0,cst 0,l,rfl,G8 0,LOk.cst s.v 0,hT,Xt.rfl' l,sX,kX,q5,q6,q8,q9,by simp -implicitDefEqProofs only[vQ,↓reduceIte,jA],by simp -implicitDefEqProofs only[vQ,↓reduceIte,jA],by simp -implicitDefEqProofs only[AA,↓reduceIte,jA],by simp -implicitDefEqProofs only[AA,↓reduceIte,jA],by simp -implicitDefEqProofs only[AA,↓reduceIte,jA],by simp -implicitDefEqProofs only[AA,↓reduceIte,jA],by simp -implicitDefEqProofs only[AA,↓reduceIte]; rfl⟩ ?_
  clear q5 q6 q8 q9 sX kX;rintro m F H0 ⟨k,s0,l0,hm,hd,od,hS,xl,s',k',q5,q6,q8,q9,f0,f3,f5,f6,f8,f9,f15⟩;simp -implicitDefEqProofs only[vQ,BD,↓reduceIte,enP,f15,MH];refine CZ (fun hc => ?_) (fun hc => ?_)
  ·have hk':k < 16:=by simpa using hc
   obtain⟨m,rfl⟩ : ∃ m',m=m'+1:=⟨m - 1,by omega⟩
   have oxx:=ox.go xl;have oyy:=oy.go xl;have hS:((eqL y (cst k) 1).bnd fun t=>(shI t x (frL left k) s0 0).bnd fun out'=>shS left x y m (k+1) out') l0=TOT:=hS;have ock:=LOk.cst s'.v k;simp -implicitDefEqProofs only[vQ,BD,↓reduceIte,jA,f15];refine ES (.ones [0,2,3,1] (.alt 4 (.ones [5] .done) .non)) (by kernel_rfl) ?_;simp only[DN,IA,jT,jS];simp -implicitDefEqProofs only[vQ,BD,↓reduceIte,jA,jO,enP,f0,f6,IE q6 hy];refine⟨_,pcX (OC G k (by omega) H0),?_⟩;refine⟨(VH G s' y (cst k) hy (G8 k) oyy ock).use hS hb (hk.trans k') ?_,trivial⟩;intro t l1 H1 et hS s1 k1;obtain⟨x1,pt⟩:=AX3 s'.v (by rw[hy,G8]) oyy ock s'.v.p1 et;have b1:=s'.lt;have kl:=k'.len;have q5:=k1.keep _ _ q5 (by omega);have q6:=k1.keep _ _ q6 (by omega);have q8:=k1.keep _ _ q8 (by omega);have q9:=k1.keep _ _ q9 (by omega);have k1:=k'.trans k1;have oxx:=oxx.go x1;have od:=od.go x1
   let K:Wrd→M Wrd:=fun out'=>shS left x y m (k+1) out'
   have hS:((shI t x (frL left k) (s0.drop 0) 0).bnd fun r=>K ([]++r)) l1=TOT:=hS;simp -implicitDefEqProofs only[vQ,↓reduceIte]
   refine F8 2 (fun F H' => ∃ d l',d.length=16∧K d l'=TOT∧LOk l' d∧Xt l1 l'∧PS bb rest l' H'∧Kb bb H H'∧isW H' H.length x∧isW H' (H.length+1) y∧isW H' (H.length+2) (jJ 16 0)∧isW H' (H.length+3) d ∧
    F 0 = .ptr bb 0 0∧F 3 = .int .i64 (NT left)∧F 5 = .ptr H.length 0 0∧F 6 = .ptr (H.length+1) 0 0∧F 8 = .ptr (H.length+2) 0 0∧F 9 = .ptr (H.length+3) 0 0∧F 15 = .int .i64 (k:Nat)) (fun _ _=>False) ?_ ?_ (fun _ _ q=>q.elim)
   ·refine DX (fun n F H' => ∃ i d l',n+i=16∧d.length=i∧LOk l' d∧((shI t x (frL left k) (s0.drop i) i).bnd fun r=>K (d++r)) l'=TOT∧Xt l1 l'∧PS bb rest l' H'∧Kb bb H H'∧isW H' H.length x∧isW H' (H.length+1) y∧isW H' (H.length+2) (jJ 16 0)∧isW H' (H.length+3) (d++s0.drop i) ∧
     F 0 = .ptr bb 0 0∧F 3 = .int .i64 (NT left)∧F 5 = .ptr H.length 0 0∧F 6 = .ptr (H.length+1) 0 0∧F 8 = .ptr (H.length+2) 0 0∧F 9 = .ptr (H.length+3) 0 0∧F 15 = .int .i64 (k:Nat)∧F 10 = .int .i64 (k:Nat)∧F 11=iA t∧F 23 = .int .i64 (i:Nat)) 16
     ⟨0,[],l1,rfl,rfl,LOk.nil _,hS,Xt.rfl' l1,s1,k1,q5,q6,q8,q9,by simp -implicitDefEqProofs only[AA,↓reduceIte,jA]; exact f0,by simp -implicitDefEqProofs only[AA,↓reduceIte,jA]; exact f3,by simp -implicitDefEqProofs only[AA,↓reduceIte,jA]; exact f5,by simp -implicitDefEqProofs only[AA,↓reduceIte,jA]; exact f6,by simp -implicitDefEqProofs only[AA,↓reduceIte,jA]; exact f8,by simp -implicitDefEqProofs only[AA,↓reduceIte,jA]; exact f9,by simp -implicitDefEqProofs only[AA,↓reduceIte,jA]; exact f15,by simp -implicitDefEqProofs only[AA,↓reduceIte,jA],by simp -implicitDefEqProofs only[AA,↓reduceIte,jA],by simp -implicitDefEqProofs only[AA,↓reduceIte]; rfl⟩ ?_
    clear q5 q6 q8 q9 s1 k1 f0 f3 f5 f6 f8 f9 f15 hS;rintro n F H1 ⟨i,d,l2,hn,hdi,odd,hS,x2,s2,k2,q5,q6,q8,q9,f0,f3,f5,f6,f8,f9,f15,f10,f11,f23⟩;simp -implicitDefEqProofs only[vQ,BD,↓reduceIte,enP,f23,MH];refine CZ (fun hc => ?_) (fun hc => ?_)
    ·have hi:i < 16:=by simpa using hc
     rw[AIM _ _ _ _ _ (by omega)] at hS;rw[IU (show i < s0.length by omega)] at q9;have oxx:=oxx.go x2;have hti:=x2.lt pt;have hoi:=(od.go x2).atD s2.v i
     have hmul:IntKind.i64.wrap (NT left * (k:Nat))=NT left * (k:Nat):=by
      have:NT left=1∨NT left = -1:=by unfold NT; cases left <;> simp
      rcases this with e | e <;> rw[e] <;> rw[wrap_i64 (by omega) (by omega)]
     have hsub:IntKind.i64.wrap ((i:Nat) - NT left * (k:Nat))=(i:Nat) - NT left * (k:Nat):=by
      have:NT left=1∨NT left = -1:=by unfold NT; cases left <;> simp
      rcases this with e | e <;> rw[e] <;> rw[wrap_i64 (by omega) (by omega)]
     cases hf:frL left k i with
     | none =>
       rw[hf] at hS;have hn2:=AN6 hf;obtain⟨z,hz⟩ : ∃ z,z=(i:Int) - NT left * (k:Nat):=⟨_,rfl⟩
       rw[← hz] at hn2;have hsub:=hsub.trans hz.symm;simp -implicitDefEqProofs only[vQ,CW,BD,KZ,UD,↓reduceIte,jA,enP,f3,f10,f23,hmul,hsub];refine KO (fun hx => ?_) (fun hx => ?_)
       ·have e16:decide (z < 16)=false:=by have:z≥0:=by simpa using hx
                                           simp; omega
        simp -implicitDefEqProofs only[vQ,CW,BD,↓reduceIte,jA,enP,hx,e16];simp -implicitDefEqProofs only[vQ,BD,↓reduceIte,jA,f23,wrap_succ (show i < 9223372036854775807 by omega)];refine⟨n - 1,by omega,i+1,d++[s0.getD i 0],l2,by omega,by simp [hdi],odd.app (LOk.cons hoi (LOk.nil _)),hS,x2,s2,k2,q5,q6,q8,by rw[zJ]; exact q9,by trivial,by trivial,by trivial,by trivial,by trivial,by trivial,by trivial,by trivial,by trivial,by trivial⟩
       ·simp -implicitDefEqProofs only[vQ,CW,BD,EX,↓reduceIte,jA,enP,hx]
        simp -implicitDefEqProofs only[vQ,BD,↓reduceIte,jA,f23,wrap_succ (show i < 9223372036854775807 by omega)];refine⟨n - 1,by omega,i+1,d++[s0.getD i 0],l2,by omega,by simp [hdi],odd.app (LOk.cons hoi (LOk.nil _)),hS,x2,s2,k2,q5,q6,q8,by rw[zJ]; exact q9,by trivial,by trivial,by trivial,by trivial,by trivial,by trivial,by trivial,by trivial,by trivial,by trivial⟩
     | some j =>
       rw[hf] at hS;obtain⟨hj,ej⟩:=AN5 hi hf;have hsub:=hsub.trans ej;have e0:decide (((j:Nat):Int)≥0)=true:=by simp
       have e16:decide (((j:Nat):Int) < 16)=true:=by simp; omega
       simp -implicitDefEqProofs only[vQ,CW,BD,KZ,UD,↓reduceIte,jA,enP,f3,f10,f23,hmul,hsub,e0];simp -implicitDefEqProofs only[DR,e16];refine ES (.ones [0,1,2,5,6,7,8,9] (.alt 3 (.alt 4 (.alt 10 (.alt 11 (.ones [12,13] .done) .non) .non) (.alt 10 (.ones [4] (.alt 11 (.ones [12,13] .done) .non)) .non)) (.alt 10 (.ones [3,4] (.alt 11 (.ones [12,13] .done) .non)) .non))) (by kernel_rfl) ?_;simp only[DN,IA,jT,jS];have hlq:i < (d++s0.getD i 0 :: s0.drop (i+1)).length:=by simp [hdi]
       have hld0:=ldW q9 (i:=i) hlq;rw[P5 hdi] at hld0;simp -implicitDefEqProofs only[vQ,BD,↓reduceIte,jA,jO,enP,f0,f5,f9,f11,f23,hsub,QG hi,QG hj,ldW q5 (show j < x.length by omega),hld0];refine⟨⟨⟨?_,trivial⟩,?_,trivial⟩,?_,trivial⟩
       ·refine(KT G s2 t _ hti (oxx.atD s2.v j)).use hS hb (hk.trans k2) ?_
        intro a l3 H3 ea hS s3 k3;obtain⟨x3,pa⟩:=apX s2.v hti (oxx.atD s2.v j) (oxx.atD s2.v j) ea;have k3':=k2.trans k3;have q5:=k3.keep _ _ q5 (by omega);have q6:=k3.keep _ _ q6 (by omega);have q8:=k3.keep _ _ q8 (by omega);have q9:=k3.keep _ _ q9 (by omega);have hld:=ldW q9 (i:=i) hlq;rw[P5 hdi] at hld;simp -implicitDefEqProofs only[vQ,↓reduceIte,jA,f0,f9,QG hi,hld];refine⟨(NU G s3 _ _ (x3.lt hoi) pa).use hS hb (hk.trans k3') ?_ ,trivial⟩;intro b l4 H4 eb hS s4 k4;obtain⟨x4,pb⟩:=apX s3.v (x3.lt hoi) pa pa eb;have k4':=k3'.trans k4;have q5:=k4.keep _ _ q5 (by omega);have q6:=k4.keep _ _ q6 (by omega);have q8:=k4.keep _ _ q8 (by omega);have q9:=k4.keep _ _ q9 (by omega);have hst:=stW (n:=b) q9 (i:=i) hlq;rw[set_mid hdi] at hst;have ne : ∀ {c:Nat} {w:Wrd} {B:ABlk},isW H4 c w→c≠H.length+3→isW (H4.set (H.length+3) B) c w:=fun q hne=>by unfold isW; rw[jU (Ne.symm hne)]; exact q
        simp -implicitDefEqProofs only[vQ,BD,↓reduceIte,jA,enP,jM,f9,QG hi,hst,f23,wrap_succ (show i < 9223372036854775807 by omega)];have x34:=x3.trans x4;exact⟨n - 1,by omega,i+1,d++[b],l4,by omega,by simp [hdi],(odd.go x34).app (LOk.cons pb (LOk.nil _)),hS,x2.trans x34,s4.set (by omega) _,k4'.setN (by omega) _,ne q5 (by omega),ne q6 (by omega),ne q8 (by omega),DZ q9,by trivial,by trivial,by trivial,by trivial,by trivial,by trivial,by trivial,by trivial,by trivial,by trivial⟩
       ·refine(KT G s2 t _ hti (oxx.atD s2.v j)).use hS hb (hk.trans k2) ?_
        intro a l3 H3 ea hS s3 k3;obtain⟨x3,pa⟩:=apX s2.v hti (oxx.atD s2.v j) (oxx.atD s2.v j) ea;have k3':=k2.trans k3;have q5:=k3.keep _ _ q5 (by omega);have q6:=k3.keep _ _ q6 (by omega);have q8:=k3.keep _ _ q8 (by omega);have q9:=k3.keep _ _ q9 (by omega);have hld:=ldW q9 (i:=i) hlq;rw[P5 hdi] at hld;simp -implicitDefEqProofs only[vQ,↓reduceIte,jA,f0,f9,QG hi,hld];refine⟨(NU G s3 _ _ (x3.lt hoi) pa).use hS hb (hk.trans k3') ?_ ,trivial⟩;intro b l4 H4 eb hS s4 k4;obtain⟨x4,pb⟩:=apX s3.v (x3.lt hoi) pa pa eb;have k4':=k3'.trans k4;have q5:=k4.keep _ _ q5 (by omega);have q6:=k4.keep _ _ q6 (by omega);have q8:=k4.keep _ _ q8 (by omega);have q9:=k4.keep _ _ q9 (by omega);have hst:=stW (n:=b) q9 (i:=i) hlq;rw[set_mid hdi] at hst;have ne : ∀ {c:Nat} {w:Wrd} {B:ABlk},isW H4 c w→c≠H.length+3→isW (H4.set (H.length+3) B) c w:=fun q hne=>by unfold isW; rw[jU (Ne.symm hne)]; exact q
        simp -implicitDefEqProofs only[vQ,BD,↓reduceIte,jA,enP,jM,f9,QG hi,hst,f23,wrap_succ (show i < 9223372036854775807 by omega)];have x34:=x3.trans x4;exact⟨n - 1,by omega,i+1,d++[b],l4,by omega,by simp [hdi],(odd.go x34).app (LOk.cons pb (LOk.nil _)),hS,x2.trans x34,s4.set (by omega) _,k4'.setN (by omega) _,ne q5 (by omega),ne q6 (by omega),ne q8 (by omega),DZ q9,by trivial,by trivial,by trivial,by trivial,by trivial,by trivial,by trivial,by trivial,by trivial,by trivial⟩
       ·refine(KT G s2 t _ hti (oxx.atD s2.v j)).use hS hb (hk.trans k2) ?_
        intro a l3 H3 ea hS s3 k3;obtain⟨x3,pa⟩:=apX s2.v hti (oxx.atD s2.v j) (oxx.atD s2.v j) ea;have k3':=k2.trans k3;have q5:=k3.keep _ _ q5 (by omega);have q6:=k3.keep _ _ q6 (by omega);have q8:=k3.keep _ _ q8 (by omega);have q9:=k3.keep _ _ q9 (by omega);have hld:=ldW q9 (i:=i) hlq;rw[P5 hdi] at hld;simp -implicitDefEqProofs only[vQ,↓reduceIte,jA,jO,enP,f0,f9,QG hi,hld];refine⟨(NU G s3 _ _ (x3.lt hoi) pa).use hS hb (hk.trans k3') ?_ ,trivial⟩;intro b l4 H4 eb hS s4 k4;obtain⟨x4,pb⟩:=apX s3.v (x3.lt hoi) pa pa eb;have k4':=k3'.trans k4;have q5:=k4.keep _ _ q5 (by omega);have q6:=k4.keep _ _ q6 (by omega);have q8:=k4.keep _ _ q8 (by omega);have q9:=k4.keep _ _ q9 (by omega);have hst:=stW (n:=b) q9 (i:=i) hlq;rw[set_mid hdi] at hst;have ne : ∀ {c:Nat} {w:Wrd} {B:ABlk},isW H4 c w→c≠H.length+3→isW (H4.set (H.length+3) B) c w:=fun q hne=>by unfold isW; rw[jU (Ne.symm hne)]; exact q
        simp -implicitDefEqProofs only[vQ,BD,↓reduceIte,jA,enP,jM,f9,QG hi,hst,f23,wrap_succ (show i < 9223372036854775807 by omega)];have x34:=x3.trans x4;exact⟨n - 1,by omega,i+1,d++[b],l4,by omega,by simp [hdi],(odd.go x34).app (LOk.cons pb (LOk.nil _)),hS,x2.trans x34,s4.set (by omega) _,k4'.setN (by omega) _,ne q5 (by omega),ne q6 (by omega),ne q8 (by omega),DZ q9,by trivial,by trivial,by trivial,by trivial,by trivial,by trivial,by trivial,by trivial,by trivial,by trivial⟩
    ·have hi:i=16:=by have:=hc; simp at this; omega
     subst hi;rw[zF (show s0.length≤16 by omega)] at hS q9;have hS:K (d++[]) l2=TOT:=hS;rw[jD] at hS q9;simp -implicitDefEqProofs only[vQ,↓reduceIte,jA];exact⟨d,l2,hdi,hS,odd,x2,s2,k2,q5,q6,q8,q9,f0,f3,f5,f6,f8,f9,f15⟩
   ·clear q5 q6 q8 q9 s1 k1 f0 f3 f5 f6 f8 f9 f15 hS
    rintro F H1 ⟨d,l2,hdi,hS,odd,x2,s2,k2,q5,q6,q8,q9,f0,f3,f5,f6,f8,f9,f15⟩;simp -implicitDefEqProofs only[vQ,BD,↓reduceIte,jA,enP,f15,wrap_succ (show k < 9223372036854775807 by omega)];exact⟨m,by omega,k+1,d,l2,by omega,hdi,odd,hS,xl.trans (x1.trans x2),s2,k2,q5,q6,q8,q9,by trivial,by trivial,by trivial,by trivial,by trivial,by trivial,by trivial⟩
  ·have hk':k=16:=by have:=hc; simp at this; omega
   subst hk';have:m=0:=by omega
   subst this;have hS:ret s0 l0=TOT:=hS;simp -implicitDefEqProofs only[vQ,↓reduceIte,jA];exact⟨s0,l0,hd,hS.symm,s',k',q9,q8,f8,f9⟩
 ·rintro F H' ⟨d,l',hd,e,s',k',q9,q8,f8,f9⟩
  simp -implicitDefEqProofs only[vQ,BD,↓reduceIte,jA,enP,jM,f8,f9,IE q9 hd,UZ q8 (by simp) hd];rw[IY _ _ _ _ _ _ _ _ _ (show _=AV.ptr (H.length+2) 0 0 by first | exact f8 | (simp -implicitDefEqProofs only[f8])),IE (DZ q8) hd];exact⟨_,rfl,d,l',e,rfl,s'.set (by omega) _,k'.setN (by omega) _⟩
end
def lgL (op:Int)(x y:Wrd):M Wrd:=(trL x 0).bnd fun s=>(trL y 0).bnd fun t=>if op=19 then (JR s t).bnd fun r=>ret (sgl r) else if op=20 then (oOr s t).bnd fun r=>ret (sgl r) else (LH s).bnd fun n=>(oOr n t).bnd fun r=>ret (sgl r)
def cpL (op:Int)(x y:Wrd):M Wrd:=if op=15 then (eqL x y 1).bnd fun r=>ret (sgl r) else if op=16 then (eqL x y 1).bnd fun e=>(LH e).bnd fun r=>ret (sgl r) else if op=17 then (lsL x y 0).bnd fun r=>ret (sgl r) else (lsL y x 0).bnd fun e=>(LH e).bnd fun r=>ret (sgl r)
def PE (op:Int)(x y:Wrd):M Wrd:=if op=7 then PD x y 0 else if op=8 then AAX x y else if op=9 then XG x 0 y (cst 0) else if op=10 then pr2 JR x y else if op=11 then pr2 oOr x y else if op=12 then pr2 NL x y else
 if op=13 then shS true x y 16 0 (cst 0) else if op=14 then shS false x y 16 0 (cst 0) else if op=19∨op=20∨op=21 then lgL op x y else cpL op x y
theorem AE7 {x:Wrd}{l l':Dg}{t r:Nat}(v:VD l)(ox:LOk l x)(ht:t < l.length)(e:trL x t l=some (r,l')):Xt l l'∧r < l'.length:=by
 obtain⟨_,x1,_,r1,_⟩:=QA x l t v ox ht r l' e;exact⟨x1,r1⟩
section
variable (G:Nat→AV) {bb:Nat} {rest:List AV}
theorem SI {H H':Hp}{l:Dg}{w:Wrd}{c:Nat}(hw:w.length=16)(s:PS bb rest l H')(k:Kb bb H H')(hc:H.length≤c)(hcb:c≠bb){z:Wrd}(hz:z.length=16)(q:isW H' c z) :
  FD Tryz.prog H' 74 (.ptr c 0 0) (wA w)=some (H'.set c (.live 16 [cW w]))∧isW (H'.set c (.live 16 [cW w])) c w∧PS bb rest l (H'.set c (.live 16 [cW w]))∧Kb bb H (H'.set c (.live 16 [cW w])) :=
 ⟨UZ q hz hw,DZ q,s.set hcb _,k.setN hc _⟩
theorem XH {H:Hp}{l:Dg}(s:PS bb rest l H)(op:Int)(hop:op=19∨op=20∨op=21)(x y:Wrd)(hx:x.length=16)(hy:y.length=16)(ox:LOk l x)(oy:LOk l y):Ct G bb rest 149 [.ptr bb 0 0,.int .i64 op,wA x,wA y] H l (lgL op x y) wA:=by
 intro base Bad hk hb;generalize hT:lgL op x y l=TOT at hb;refine acN Tryz.func149 rfl ?_;show awp _ _ _ _ _ (EK _ [.cell 8 74] _);simp -implicitDefEqProofs only[vQ,BD,↓reduceIte,jA,enP,QJ _ hx,QJ _ hy,UH];generalize hX:H++[ABlk.live 16 [cW x]]++[ABlk.live 16 [cW y]]++[ABlk.live 16 [cW (jJ 16 0)]]=X;have hxe:ext H X:=by rw[← hX]; exact(((ext.rfl' H).app _).app _).app _
 have q6:isW X H.length x:=by rw[← hX]; exact BR (BR (CU _ _))
 have q7:isW X (H.length+1) y:=by rw[← hX]; exact BR (IG (by simp))
 have q8:isW X (H.length+2) (jJ 16 0):=by rw[← hX]; exact IG (by simp)
 have sX:=s.ext hxe;have kX:=Kb.ofExt (bb:=bb) hxe;have e1:(H++[ABlk.live 16 [cW x]]).length=H.length+1:=by simp
 have e2:(H++[ABlk.live 16 [cW x]]++[ABlk.live 16 [cW y]]).length=H.length+2:=by simp
 rw[e1,e2];clear hX hxe;have sl:=s.lt;simp -implicitDefEqProofs only[vQ,BD,↓reduceIte,jA,IE q6 hx];refine(N8 G sX x hx ox).use hT hb (hk.trans kX) ?_;intro r1 l1 H1 e1 hS s1 k1;obtain⟨x1,p1⟩:=AE7 s.v ox s.v.p0 e1;have q7:=k1.keep _ _ q7 (by omega);have q8:=k1.keep _ _ q8 (by omega);have k1:=kX.trans k1;simp -implicitDefEqProofs only[vQ,BD,↓reduceIte,jA,enP,IE q7 hy];refine(N8 G s1 y hy (oy.go x1)).use hS hb (hk.trans k1) ?_;intro r2 l2 H2 e2 hS s2 k2;obtain⟨x2,p2⟩:=AE7 s1.v (oy.go x1) s1.v.p0 e2;have q8:=k2.keep _ _ q8 (by omega);have k2:=k1.trans k2;have p1:=x2.lt p1;rcases hop with rfl | rfl | rfl
 ·rw[if_pos rfl] at hS
  simp -implicitDefEqProofs only[vQ,BD,↓reduceIte,jA,enP,zG];refine(KT G s2 _ _ p1 p2).use hS hb (hk.trans k2) ?_;intro r3 l3 H3 e3 hS s3 k3;have hS:ret (sgl r3) l3=TOT:=hS;have q8:=k3.keep _ _ q8 (by omega);obtain⟨f1,f2,f3,f4⟩:=SI (JI r3) s3 (k2.trans k3) (c:=H.length+2) (by omega) (by omega) (by simp) q8;simp -implicitDefEqProofs only[vQ,BD,↓reduceIte];refine(pcX (J3 G r3 H3)).use ?_;simp -implicitDefEqProofs only[vQ,BD,↓reduceIte,jA,enP,jM,f1];rw[IY _ _ _ _ _ _ _ _ _ (show _=AV.ptr (H.length+2) 0 0 by simp -implicitDefEqProofs only[AA,↓reduceIte,jA]),IE f2 (JI r3)];exact⟨_,rfl,_,_,hS.symm,rfl,f3,f4⟩
 ·rw[if_neg (by decide),if_pos rfl] at hS
  simp -implicitDefEqProofs only[vQ,BD,↓reduceIte,jA,enP,zG];refine(NU G s2 _ _ p1 p2).use hS hb (hk.trans k2) ?_;intro r3 l3 H3 e3 hS s3 k3;have hS:ret (sgl r3) l3=TOT:=hS;have q8:=k3.keep _ _ q8 (by omega);obtain⟨f1,f2,f3,f4⟩:=SI (JI r3) s3 (k2.trans k3) (c:=H.length+2) (by omega) (by omega) (by simp) q8;simp -implicitDefEqProofs only[vQ,BD,↓reduceIte];refine(pcX (J3 G r3 H3)).use ?_;simp -implicitDefEqProofs only[vQ,BD,↓reduceIte,jA,enP,jM,f1];rw[IY _ _ _ _ _ _ _ _ _ (show _=AV.ptr (H.length+2) 0 0 by simp -implicitDefEqProofs only[AA,↓reduceIte,jA]),IE f2 (JI r3)];exact⟨_,rfl,_,_,hS.symm,rfl,f3,f4⟩
 ·rw[if_neg (by decide),if_neg (by decide)] at hS
  simp -implicitDefEqProofs only[vQ,BD,↓reduceIte,jA,enP,zG];refine(LP G s2 _ p1).use hS hb (hk.trans k2) ?_;intro r3 l3 H3 e3 hS s3 k3;obtain⟨x3,p3⟩:=apX s2.v p1 p1 p1 e3;have q8:=k3.keep _ _ q8 (by omega);have k3:=k2.trans k3;simp -implicitDefEqProofs only[vQ,BD,↓reduceIte,jA];refine(NU G s3 _ _ p3 (x3.lt p2)).use hS hb (hk.trans k3) ?_;intro r4 l4 H4 e4 hS s4 k4;have hS:ret (sgl r4) l4=TOT:=hS;have q8:=k4.keep _ _ q8 (by omega);obtain⟨f1,f2,f3,f4⟩:=SI (JI r4) s4 (k3.trans k4) (c:=H.length+2) (by omega) (by omega) (by simp) q8;simp -implicitDefEqProofs only[vQ,BD,↓reduceIte];refine(pcX (J3 G r4 H4)).use ?_;simp -implicitDefEqProofs only[vQ,BD,↓reduceIte,jA,enP,jM,f1];rw[IY _ _ _ _ _ _ _ _ _ (show _=AV.ptr (H.length+2) 0 0 by simp -implicitDefEqProofs only[AA,↓reduceIte,jA]),IE f2 (JI r4)];exact⟨_,rfl,_,_,hS.symm,rfl,f3,f4⟩
theorem AB0 {H:Hp}{l:Dg}(s:PS bb rest l H)(op:Int)(x y:Wrd)(hx:x.length=16)(hy:y.length=16)(ox:LOk l x)(oy:LOk l y):Ct G bb rest 150 [.ptr bb 0 0,.int .i64 op,wA x,wA y] H l (cpL op x y) wA:=by
 intro base Bad hk hb;generalize hT:cpL op x y l=TOT at hb;refine acN Tryz.func150 rfl ?_;show awp _ _ _ _ _ (EK _ [.cell 8 74] _);simp -implicitDefEqProofs only[vQ,BD,↓reduceIte,jA,enP,QJ _ hx,QJ _ hy,UH];generalize hX:H++[ABlk.live 16 [cW x]]++[ABlk.live 16 [cW y]]++[ABlk.live 16 [cW (jJ 16 0)]]=X;have hxe:ext H X:=by rw[← hX]; exact(((ext.rfl' H).app _).app _).app _
 have q6:isW X H.length x:=by rw[← hX]; exact BR (BR (CU _ _))
 have q7:isW X (H.length+1) y:=by rw[← hX]; exact BR (IG (by simp))
 have q8:isW X (H.length+2) (jJ 16 0):=by rw[← hX]; exact IG (by simp)
 have sX:=s.ext hxe;have kX:=Kb.ofExt (bb:=bb) hxe;have e1:(H++[ABlk.live 16 [cW x]]).length=H.length+1:=by simp
 have e2:(H++[ABlk.live 16 [cW x]]++[ABlk.live 16 [cW y]]).length=H.length+2:=by simp
 rw[e1,e2];clear hX hxe;have sl:=s.lt;have hcase:op=15∨op=16∨op=17∨(op≠15∧op≠16∧op≠17):=by omega
 rcases hcase with rfl | rfl | rfl | ⟨n1,n2,n3⟩
 ·unfold cpL at hT; rw[if_pos rfl] at hT
  simp -implicitDefEqProofs only[vQ,BD,↓reduceIte,jA,enP,zG,IE q6 hx,IE q7 hy];refine(VH G sX x y hx hy ox oy).use hT hb (hk.trans kX) ?_;intro r3 l3 H3 e3 hS s3 k3;have hS:ret (sgl r3) l3=TOT:=hS;have q8:=k3.keep _ _ q8 (by omega);obtain⟨f1,f2,f3,f4⟩:=SI (JI r3) s3 (kX.trans k3) (c:=H.length+2) (by omega) (by omega) (by simp) q8;simp -implicitDefEqProofs only[vQ,BD,↓reduceIte];refine(pcX (J3 G r3 H3)).use ?_;simp -implicitDefEqProofs only[vQ,BD,↓reduceIte,jA,enP,jM,f1];rw[IY _ _ _ _ _ _ _ _ _ (show _=AV.ptr (H.length+2) 0 0 by simp -implicitDefEqProofs only[AA,↓reduceIte,jA]),IE f2 (JI r3)];exact⟨_,rfl,_,_,hS.symm,rfl,f3,f4⟩
 ·unfold cpL at hT; rw[if_neg (by decide),if_pos rfl] at hT
  simp -implicitDefEqProofs only[vQ,BD,↓reduceIte,jA,enP,zG,IE q6 hx,IE q7 hy];refine(VH G sX x y hx hy ox oy).use hT hb (hk.trans kX) ?_;intro r2 l2 H2 e2 hS s2 k2;obtain⟨x2,p2⟩:=AX3 s.v (by omega) ox oy s.v.p1 e2;have q8:=k2.keep _ _ q8 (by omega);have k2:=kX.trans k2;simp -implicitDefEqProofs only[vQ,BD,↓reduceIte,jA];refine(LP G s2 _ p2).use hS hb (hk.trans k2) ?_;intro r3 l3 H3 e3 hS s3 k3;have hS:ret (sgl r3) l3=TOT:=hS;have q8:=k3.keep _ _ q8 (by omega);obtain⟨f1,f2,f3,f4⟩:=SI (JI r3) s3 (k2.trans k3) (c:=H.length+2) (by omega) (by omega) (by simp) q8;simp -implicitDefEqProofs only[vQ,BD,↓reduceIte];refine(pcX (J3 G r3 H3)).use ?_;simp -implicitDefEqProofs only[vQ,BD,↓reduceIte,jA,enP,jM,f1];rw[IY _ _ _ _ _ _ _ _ _ (show _=AV.ptr (H.length+2) 0 0 by simp -implicitDefEqProofs only[AA,↓reduceIte,jA]),IE f2 (JI r3)];exact⟨_,rfl,_,_,hS.symm,rfl,f3,f4⟩
 ·unfold cpL at hT; rw[if_neg (by decide),if_neg (by decide),if_pos rfl] at hT
  simp -implicitDefEqProofs only[vQ,BD,↓reduceIte,jA,enP,zG,IE q6 hx,IE q7 hy];refine(V4 G sX x y hx hy ox oy).use hT hb (hk.trans kX) ?_;intro r3 l3 H3 e3 hS s3 k3;have hS:ret (sgl r3) l3=TOT:=hS;have q8:=k3.keep _ _ q8 (by omega);obtain⟨f1,f2,f3,f4⟩:=SI (JI r3) s3 (kX.trans k3) (c:=H.length+2) (by omega) (by omega) (by simp) q8;simp -implicitDefEqProofs only[vQ,BD,↓reduceIte];refine(pcX (J3 G r3 H3)).use ?_;simp -implicitDefEqProofs only[vQ,BD,↓reduceIte,jA,enP,jM,f1];rw[IY _ _ _ _ _ _ _ _ _ (show _=AV.ptr (H.length+2) 0 0 by simp -implicitDefEqProofs only[AA,↓reduceIte,jA]),IE f2 (JI r3)];exact⟨_,rfl,_,_,hS.symm,rfl,f3,f4⟩
 ·unfold cpL at hT; rw[if_neg n1,if_neg n2,if_neg n3] at hT
  simp -implicitDefEqProofs only[vQ,BD,↓reduceIte,jA,enP,beq_eq_false_iff_ne.2 n1,beq_eq_false_iff_ne.2 n2,beq_eq_false_iff_ne.2 n3,IE q6 hx,IE q7 hy];refine(V4 G sX y x hy hx oy ox).use hT hb (hk.trans kX) ?_;intro r2 l2 H2 e2 hS s2 k2;obtain⟨x2,p2⟩:=AR6 s.v (by omega) oy ox s.v.p0 e2;have q8:=k2.keep _ _ q8 (by omega);have k2:=kX.trans k2;simp -implicitDefEqProofs only[vQ,BD,↓reduceIte,jA];refine(LP G s2 _ p2).use hS hb (hk.trans k2) ?_;intro r3 l3 H3 e3 hS s3 k3;have hS:ret (sgl r3) l3=TOT:=hS;have q8:=k3.keep _ _ q8 (by omega);obtain⟨f1,f2,f3,f4⟩:=SI (JI r3) s3 (k2.trans k3) (c:=H.length+2) (by omega) (by omega) (by simp) q8;simp -implicitDefEqProofs only[vQ,BD,↓reduceIte];refine(pcX (J3 G r3 H3)).use ?_;simp -implicitDefEqProofs only[vQ,BD,↓reduceIte,jA,enP,jM,f1];rw[IY _ _ _ _ _ _ _ _ _ (show _=AV.ptr (H.length+2) 0 0 by simp -implicitDefEqProofs only[AA,↓reduceIte,jA]),IE f2 (JI r3)];exact⟨_,rfl,_,_,hS.symm,rfl,f3,f4⟩
end
def Ws (l:Dg)(m:M Wrd):Prop:=Sp l m fun r l'=>r.length=16∧LOk l' r
theorem Ws.of {l:Dg}{m:M Wrd}{P:Wrd→Dg→Prop}(h:Sp l m fun r l'=>(r.length=16∧LOk l' r)∧P r l'):Ws l m:=h.mono fun _ _ _ _ q=>q.1
theorem Ws.sgl {l:Dg}{m:M Nat}{P:Nat→Dg→Prop}(h:Sp l m fun r l'=>r < l'.length∧P r l'):Ws l (m.bnd fun r=>ret (Bl.sgl r)) :=
 h.bnd fun r _ v1 _ q=>Sp.ret v1 ⟨JI r,LOk.sgl v1 q.1⟩
section
variable {l:Dg} (v:VD l) {x y:Wrd} (hx:x.length=16) (hy:y.length=16) (ox:LOk l x) (oy:LOk l y)
include v hx hy ox oy
theorem AQO (op:Nat→Nat→M Nat)(b:B3)(h : ∀ f g,op f g=ap b f g g):Ws l (pr2 op x y) :=
 (AC2 op (fun _ _ p q=>b p q q) l (fun l' f g v' _ hf hg=>by rw[h]; exact UG b v' hf hg hg) x y l v (Xt.rfl' l) (by omega) ox oy).mono fun _ _ _ _ q=>⟨by omega,q.1.2⟩
omit hx hy in
theorem AQP (op:Int):Ws l (lgL op x y):=by
 unfold lgL;refine(QA x l 0 v ox v.p0).bnd ?_;rintro s l1 v1 x1 ⟨h1,_⟩;refine(QA y l1 0 v1 (oy.go x1) v1.p0).bnd ?_;rintro t l2 v2 x2 ⟨h2,_⟩;split
 ·exact Ws.sgl (OE v2 (x2.lt h1) h2)
 split
 ·exact Ws.sgl (UJ v2 (x2.lt h1) h2)
 ·refine(N9 v2 (x2.lt h1)).bnd ?_
  rintro n l3 v3 x3 ⟨h3,_⟩;exact Ws.sgl (UJ v3 h3 (x3.lt h2))
theorem AUT (op:Int):Ws l (cpL op x y):=by
 unfold cpL;split
 ·exact Ws.sgl (VI x y l 1 v (by omega) ox oy v.p1)
 split
 ·refine(VI x y l 1 v (by omega) ox oy v.p1).bnd ?_
  rintro n l3 v3 x3 ⟨h3,_⟩;exact Ws.sgl (N9 v3 h3)
 split
 ·exact Ws.sgl (TZ x y l 0 v (by omega) ox oy v.p0)
 ·refine(TZ y x l 0 v (by omega) oy ox v.p0).bnd ?_
  rintro n l3 v3 x3 ⟨h3,_⟩;exact Ws.sgl (N9 v3 h3)
theorem AYN (op:Int):Ws l (PE op x y):=by
 unfold PE;split
 ·exact(PN x y l 0 v (by omega) ox oy v.p0).mono fun _ _ _ _ q=>⟨by omega,q.1.2⟩
 split
 ·exact Ws.of (ACD v hx hy ox oy)
 split
 ·exact Ws.of (AB5 x hx y 0 l (cst 0) v (by omega) ox oy (G8 0) (LOk.cst v 0))
 split
 ·exact AQO v hx hy ox oy JR AJ6 fun _ _=>rfl
 split
 ·exact AQO v hx hy ox oy oOr bOr fun _ _=>rfl
 split
 ·exact AQO v hx hy ox oy NL AJ5 fun _ _=>rfl
 split
 ·exact Ws.of (U0 true v hx hy ox oy)
 split
 ·exact Ws.of (U0 false v hx hy ox oy)
 split
 ·exact AQP v ox oy op
 ·exact AUT v hx hy ox oy op
end
section
variable (G:Nat→AV) {bb:Nat} {rest:List AV}
theorem APD {H:Hp}{l:Dg}(s:PS bb rest l H){x y:Wrd}(hx:x.length=16)(hy:y.length=16)(ox:LOk l x)(oy:LOk l y):Ct G bb rest 82 [wA x,wA y,.fn (.func 144) [.ptr bb 0 0] []] H l (pr2 JR x y) wA :=
 TS G s x y hx hy ox oy _ JR (fun _ _ _ _ _ v _ hf hg e=>apX v hf hg hg e) fun _ _ f g s' _ _ hf hg base Bad hk hb=>KT G s' f g hf hg base Bad hk hb
theorem ARP {H:Hp}{l:Dg}(s:PS bb rest l H){x y:Wrd}(hx:x.length=16)(hy:y.length=16)(ox:LOk l x)(oy:LOk l y):Ct G bb rest 82 [wA x,wA y,.fn (.func 73) [.ptr bb 0 0] []] H l (pr2 oOr x y) wA :=
 TS G s x y hx hy ox oy _ oOr (fun _ _ _ _ _ v _ hf hg e=>apX v hf hg hg e) fun _ _ f g s' _ _ hf hg base Bad hk hb=>NU G s' f g hf hg base Bad hk hb
theorem APC {H:Hp}{l:Dg}(s:PS bb rest l H){x y:Wrd}(hx:x.length=16)(hy:y.length=16)(ox:LOk l x)(oy:LOk l y):Ct G bb rest 82 [wA x,wA y,.fn (.func 147) [.ptr bb 0 0] []] H l (pr2 NL x y) wA :=
 TS G s x y hx hy ox oy _ NL (fun _ _ _ _ _ v _ hf hg e=>apX v hf hg hg e) fun _ _ f g s' _ _ hf hg base Bad hk hb=>TD G s' f g hf hg base Bad hk hb
theorem AU7 {H:Hp}{l:Dg}(s:PS bb rest l H){x y:Wrd}(hx:x.length=16)(hy:y.length=16)(ox:LOk l x)(oy:LOk l y):Ct G bb rest 148 [.ptr bb 0 0,wA x,wA y,.int .i64 1] H l (shS true x y 16 0 (cst 0)) wA:=ACS G s true x y hx hy ox oy
theorem AU6 {H:Hp}{l:Dg}(s:PS bb rest l H){x y:Wrd}(hx:x.length=16)(hy:y.length=16)(ox:LOk l x)(oy:LOk l y):Ct G bb rest 148 [.ptr bb 0 0,wA x,wA y,.int .i64 (-1)] H l (shS false x y 16 0 (cst 0)) wA:=ACS G s false x y hx hy ox oy
set_option maxHeartbeats 8000000 in
theorem AJ1 {H:Hp}{l:Dg}(s:PS bb rest l H)(op:Int)(x y:Wrd)(hx:x.length=16)(hy:y.length=16)(ox:LOk l x)(oy:LOk l y):Ct G bb rest 85 [.ptr bb 0 0,.int .i64 op,wA x,wA y] H l (PE op x y) wA:=by
 intro base Bad hk hb;have hW : ∀ m,PE op x y=m→Ws l m:=fun m e=>e ▸ AYN s.v hx hy ox oy op
 generalize hT:PE op x y l=TOT at hb;refine acN Tryz.func85 rfl ?_;show awp _ _ _ _ _ (EK _ [.cell 8 74] _);simp -implicitDefEqProofs only[vQ,BD,↓reduceIte,jA,enP,QJ _ hx,QJ _ hy,UH];generalize hX:H++[ABlk.live 16 [cW x]]++[ABlk.live 16 [cW y]]++[ABlk.live 16 [cW (jJ 16 0)]]=X;have hxe:ext H X:=by rw[← hX]; exact(((ext.rfl' H).app _).app _).app _
 have q6:isW X H.length x:=by rw[← hX]; exact BR (BR (CU _ _))
 have q7:isW X (H.length+1) y:=by rw[← hX]; exact BR (IG (by simp))
 have q8:isW X (H.length+2) (jJ 16 0):=by rw[← hX]; exact IG (by simp)
 have sX:=s.ext hxe;have kX:=Kb.ofExt (bb:=bb) hxe;have e1:(H++[ABlk.live 16 [cW x]]).length=H.length+1:=by simp
 have e2:(H++[ABlk.live 16 [cW x]]++[ABlk.live 16 [cW y]]).length=H.length+2:=by simp
 rw[e1,e2];clear hX hxe;have sl:=s.lt;have hcase:op=7∨op=8∨op=9∨op=10∨op=11∨op=12∨op=13∨op=14∨(op=19∨op=20∨op=21)∨(op≠7∧op≠8∧op≠9∧op≠10∧op≠11∧op≠12∧op≠13∧op≠14∧op≠19∧op≠20∧op≠21):=by omega
 rcases hcase with rfl | rfl | rfl | rfl | rfl | rfl | rfl | rfl | hop | ⟨n1,n2,n3,n4,n5,n6,n7,n8,n9,n10,n11⟩
 ·have hm:PE 7 x y=PD x y 0:=by unfold PE;  rw[if_pos rfl]
  have hw:=hW _ hm;rw[hm] at hT;simp -implicitDefEqProofs only[vQ,BD,↓reduceIte,jA,enP,zG,IE q6 hx,IE q7 hy];refine(YK G sX x y 0 hx hy ox oy s.v.p0).use (k:=fun r=>ret r) (by rw[J5]; exact hT) hb (hk.trans kX) ?_;intro r3 l3 H3 e3 hS s3 k3;have hS:ret r3 l3=TOT:=hS;have hr:=(hw r3 l3 e3).2.2.2.1;have q8:=k3.keep _ _ q8 (by omega);obtain⟨f1,f2,f3,f4⟩:=SI hr s3 (kX.trans k3) (c:=H.length+2) (by omega) (by omega) (by simp) q8;simp -implicitDefEqProofs only[vQ,BD,↓reduceIte,jA,enP,jM,f1];rw[IY _ _ _ _ _ _ _ _ _ (show _=AV.ptr (H.length+2) 0 0 by simp -implicitDefEqProofs only[AA,↓reduceIte,jA]),IE f2 hr];exact⟨_,rfl,_,_,hS.symm,rfl,f3,f4⟩
 ·have hm:PE 8 x y=AAX x y:=by unfold PE; rw[if_neg (by decide)]; rw[if_pos rfl]
  have hw:=hW _ hm;rw[hm] at hT;simp -implicitDefEqProofs only[vQ,BD,↓reduceIte,jA,enP,zG,IE q6 hx,IE q7 hy];refine(AJO G sX x y hx hy ox oy).use (k:=fun r=>ret r) (by rw[J5]; exact hT) hb (hk.trans kX) ?_;intro r3 l3 H3 e3 hS s3 k3;have hS:ret r3 l3=TOT:=hS;have hr:=(hw r3 l3 e3).2.2.2.1;have q8:=k3.keep _ _ q8 (by omega);obtain⟨f1,f2,f3,f4⟩:=SI hr s3 (kX.trans k3) (c:=H.length+2) (by omega) (by omega) (by simp) q8;simp -implicitDefEqProofs only[vQ,BD,↓reduceIte,jA,enP,jM,f1];rw[IY _ _ _ _ _ _ _ _ _ (show _=AV.ptr (H.length+2) 0 0 by simp -implicitDefEqProofs only[AA,↓reduceIte,jA]),IE f2 hr];exact⟨_,rfl,_,_,hS.symm,rfl,f3,f4⟩
 ·have hm:PE 9 x y=XG x 0 y (cst 0):=by unfold PE; rw[if_neg (by decide)]; rw[if_neg (by decide)]; rw[if_pos rfl]
  have hw:=hW _ hm;rw[hm] at hT;simp -implicitDefEqProofs only[vQ,BD,↓reduceIte,jA,enP,zG,IE q6 hx,IE q7 hy];refine(AGP G sX x y hx hy ox oy).use (k:=fun r=>ret r) (by rw[J5]; exact hT) hb (hk.trans kX) ?_;intro r3 l3 H3 e3 hS s3 k3;have hS:ret r3 l3=TOT:=hS;have hr:=(hw r3 l3 e3).2.2.2.1;have q8:=k3.keep _ _ q8 (by omega);obtain⟨f1,f2,f3,f4⟩:=SI hr s3 (kX.trans k3) (c:=H.length+2) (by omega) (by omega) (by simp) q8;simp -implicitDefEqProofs only[vQ,BD,↓reduceIte,jA,enP,jM,f1];rw[IY _ _ _ _ _ _ _ _ _ (show _=AV.ptr (H.length+2) 0 0 by simp -implicitDefEqProofs only[AA,↓reduceIte,jA]),IE f2 hr];exact⟨_,rfl,_,_,hS.symm,rfl,f3,f4⟩
 ·have hm:PE 10 x y=pr2 JR x y:=by unfold PE; rw[if_neg (by decide)]; rw[if_neg (by decide)]; rw[if_neg (by decide)]; rw[if_pos rfl]
  have hw:=hW _ hm;rw[hm] at hT;simp -implicitDefEqProofs only[vQ,BD,I7,↓reduceIte,jA,enP,zG,IE q6 hx,IE q7 hy];refine(APD G sX hx hy ox oy).use (k:=fun r=>ret r) (by rw[J5]; exact hT) hb (hk.trans kX) ?_;intro r3 l3 H3 e3 hS s3 k3;have hS:ret r3 l3=TOT:=hS;have hr:=(hw r3 l3 e3).2.2.2.1;have q8:=k3.keep _ _ q8 (by omega);obtain⟨f1,f2,f3,f4⟩:=SI hr s3 (kX.trans k3) (c:=H.length+2) (by omega) (by omega) (by simp) q8;simp -implicitDefEqProofs only[vQ,BD,↓reduceIte,jA,enP,jM,f1];rw[IY _ _ _ _ _ _ _ _ _ (show _=AV.ptr (H.length+2) 0 0 by simp -implicitDefEqProofs only[AA,↓reduceIte,jA]),IE f2 hr];exact⟨_,rfl,_,_,hS.symm,rfl,f3,f4⟩
 ·have hm:PE 11 x y=pr2 oOr x y:=by unfold PE; rw[if_neg (by decide)]; rw[if_neg (by decide)]; rw[if_neg (by decide)]; rw[if_neg (by decide)]; rw[if_pos rfl]
  have hw:=hW _ hm;rw[hm] at hT;simp -implicitDefEqProofs only[vQ,BD,I7,↓reduceIte,jA,enP,zG,IE q6 hx,IE q7 hy];refine(ARP G sX hx hy ox oy).use (k:=fun r=>ret r) (by rw[J5]; exact hT) hb (hk.trans kX) ?_;intro r3 l3 H3 e3 hS s3 k3;have hS:ret r3 l3=TOT:=hS;have hr:=(hw r3 l3 e3).2.2.2.1;have q8:=k3.keep _ _ q8 (by omega);obtain⟨f1,f2,f3,f4⟩:=SI hr s3 (kX.trans k3) (c:=H.length+2) (by omega) (by omega) (by simp) q8;simp -implicitDefEqProofs only[vQ,BD,↓reduceIte,jA,enP,jM,f1];rw[IY _ _ _ _ _ _ _ _ _ (show _=AV.ptr (H.length+2) 0 0 by simp -implicitDefEqProofs only[AA,↓reduceIte,jA]),IE f2 hr];exact⟨_,rfl,_,_,hS.symm,rfl,f3,f4⟩
 ·have hm:PE 12 x y=pr2 NL x y:=by unfold PE; rw[if_neg (by decide)]; rw[if_neg (by decide)]; rw[if_neg (by decide)]; rw[if_neg (by decide)]; rw[if_neg (by decide)]; rw[if_pos rfl]
  have hw:=hW _ hm;rw[hm] at hT;simp -implicitDefEqProofs only[vQ,BD,I7,↓reduceIte,jA,enP,zG,IE q6 hx,IE q7 hy];refine(APC G sX hx hy ox oy).use (k:=fun r=>ret r) (by rw[J5]; exact hT) hb (hk.trans kX) ?_;intro r3 l3 H3 e3 hS s3 k3;have hS:ret r3 l3=TOT:=hS;have hr:=(hw r3 l3 e3).2.2.2.1;have q8:=k3.keep _ _ q8 (by omega);obtain⟨f1,f2,f3,f4⟩:=SI hr s3 (kX.trans k3) (c:=H.length+2) (by omega) (by omega) (by simp) q8;simp -implicitDefEqProofs only[vQ,BD,↓reduceIte,jA,enP,jM,f1];rw[IY _ _ _ _ _ _ _ _ _ (show _=AV.ptr (H.length+2) 0 0 by simp -implicitDefEqProofs only[AA,↓reduceIte,jA]),IE f2 hr];exact⟨_,rfl,_,_,hS.symm,rfl,f3,f4⟩
 ·have hm:PE 13 x y=shS true x y 16 0 (cst 0):=by unfold PE; rw[if_neg (by decide)]; rw[if_neg (by decide)]; rw[if_neg (by decide)]; rw[if_neg (by decide)]; rw[if_neg (by decide)]; rw[if_neg (by decide)]; rw[if_pos rfl]
  have hw:=hW _ hm;rw[hm] at hT;simp -implicitDefEqProofs only[vQ,BD,↓reduceIte,jA,enP,zG,IE q6 hx,IE q7 hy];refine(AU7 G sX hx hy ox oy).use (k:=fun r=>ret r) (by rw[J5]; exact hT) hb (hk.trans kX) ?_;intro r3 l3 H3 e3 hS s3 k3;have hS:ret r3 l3=TOT:=hS;have hr:=(hw r3 l3 e3).2.2.2.1;have q8:=k3.keep _ _ q8 (by omega);obtain⟨f1,f2,f3,f4⟩:=SI hr s3 (kX.trans k3) (c:=H.length+2) (by omega) (by omega) (by simp) q8;simp -implicitDefEqProofs only[vQ,BD,↓reduceIte,jA,enP,jM,f1];rw[IY _ _ _ _ _ _ _ _ _ (show _=AV.ptr (H.length+2) 0 0 by simp -implicitDefEqProofs only[AA,↓reduceIte,jA]),IE f2 hr];exact⟨_,rfl,_,_,hS.symm,rfl,f3,f4⟩
 ·have hm:PE 14 x y=shS false x y 16 0 (cst 0):=by unfold PE; rw[if_neg (by decide)]; rw[if_neg (by decide)]; rw[if_neg (by decide)]; rw[if_neg (by decide)]; rw[if_neg (by decide)]; rw[if_neg (by decide)]; rw[if_neg (by decide)]; rw[if_pos rfl]
  have hw:=hW _ hm;rw[hm] at hT;simp -implicitDefEqProofs only[vQ,BD,↓reduceIte,jA,enP,zG,IE q6 hx,IE q7 hy];refine(AU6 G sX hx hy ox oy).use (k:=fun r=>ret r) (by rw[J5]; exact hT) hb (hk.trans kX) ?_;intro r3 l3 H3 e3 hS s3 k3;have hS:ret r3 l3=TOT:=hS;have hr:=(hw r3 l3 e3).2.2.2.1;have q8:=k3.keep _ _ q8 (by omega);obtain⟨f1,f2,f3,f4⟩:=SI hr s3 (kX.trans k3) (c:=H.length+2) (by omega) (by omega) (by simp) q8;simp -implicitDefEqProofs only[vQ,BD,↓reduceIte,jA,enP,jM,f1];rw[IY _ _ _ _ _ _ _ _ _ (show _=AV.ptr (H.length+2) 0 0 by simp -implicitDefEqProofs only[AA,↓reduceIte,jA]),IE f2 hr];exact⟨_,rfl,_,_,hS.symm,rfl,f3,f4⟩
 ·have hm:PE op x y=lgL op x y:=by
   unfold PE;rw[if_neg (by omega),if_neg (by omega),if_neg (by omega),if_neg (by omega),if_neg (by omega),if_neg (by omega),if_neg (by omega),if_neg (by omega),if_pos hop]
  have hw:=hW _ hm;rw[hm] at hT;have hne : ∀ k:Int,7≤k→k≤14→(op == k)=false:=fun k _ _=>beq_eq_false_iff_ne.2 (by omega)
  rcases hop with rfl | rfl | rfl
  ·simp -implicitDefEqProofs only[vQ,BD,↓reduceIte,jA,enP,zG,IE q6 hx,IE q7 hy]
   refine(XH G sX 19 (by omega) x y hx hy ox oy).use (k:=fun r=>ret r) (by rw[J5]; exact hT) hb (hk.trans kX) ?_;intro r3 l3 H3 e3 hS s3 k3;have hS:ret r3 l3=TOT:=hS;have hr:=(hw r3 l3 e3).2.2.2.1;have q8:=k3.keep _ _ q8 (by omega);obtain⟨f1,f2,f3,f4⟩:=SI hr s3 (kX.trans k3) (c:=H.length+2) (by omega) (by omega) (by simp) q8;simp -implicitDefEqProofs only[vQ,BD,↓reduceIte,jA,enP,jM,f1];rw[IY _ _ _ _ _ _ _ _ _ (show _=AV.ptr (H.length+2) 0 0 by simp -implicitDefEqProofs only[AA,↓reduceIte,jA]),IE f2 hr];exact⟨_,rfl,_,_,hS.symm,rfl,f3,f4⟩
  ·simp -implicitDefEqProofs only[vQ,BD,↓reduceIte,jA,enP,zG,IE q6 hx,IE q7 hy]
   refine(XH G sX 20 (by omega) x y hx hy ox oy).use (k:=fun r=>ret r) (by rw[J5]; exact hT) hb (hk.trans kX) ?_;intro r3 l3 H3 e3 hS s3 k3;have hS:ret r3 l3=TOT:=hS;have hr:=(hw r3 l3 e3).2.2.2.1;have q8:=k3.keep _ _ q8 (by omega);obtain⟨f1,f2,f3,f4⟩:=SI hr s3 (kX.trans k3) (c:=H.length+2) (by omega) (by omega) (by simp) q8;simp -implicitDefEqProofs only[vQ,BD,↓reduceIte,jA,enP,jM,f1];rw[IY _ _ _ _ _ _ _ _ _ (show _=AV.ptr (H.length+2) 0 0 by simp -implicitDefEqProofs only[AA,↓reduceIte,jA]),IE f2 hr];exact⟨_,rfl,_,_,hS.symm,rfl,f3,f4⟩
  ·simp -implicitDefEqProofs only[vQ,BD,↓reduceIte,jA,enP,zG,IE q6 hx,IE q7 hy]
   refine(XH G sX 21 (by omega) x y hx hy ox oy).use (k:=fun r=>ret r) (by rw[J5]; exact hT) hb (hk.trans kX) ?_;intro r3 l3 H3 e3 hS s3 k3;have hS:ret r3 l3=TOT:=hS;have hr:=(hw r3 l3 e3).2.2.2.1;have q8:=k3.keep _ _ q8 (by omega);obtain⟨f1,f2,f3,f4⟩:=SI hr s3 (kX.trans k3) (c:=H.length+2) (by omega) (by omega) (by simp) q8;simp -implicitDefEqProofs only[vQ,BD,↓reduceIte,jA,enP,jM,f1];rw[IY _ _ _ _ _ _ _ _ _ (show _=AV.ptr (H.length+2) 0 0 by simp -implicitDefEqProofs only[AA,↓reduceIte,jA]),IE f2 hr];exact⟨_,rfl,_,_,hS.symm,rfl,f3,f4⟩
 ·have hm:PE op x y=cpL op x y:=by
   unfold PE;rw[if_neg n1,if_neg n2,if_neg n3,if_neg n4,if_neg n5,if_neg n6,if_neg n7,if_neg n8,if_neg (by omega)]
  have hw:=hW _ hm;rw[hm] at hT;simp -implicitDefEqProofs only[vQ,BD,↓reduceIte,jA,enP,beq_eq_false_iff_ne.2 n1,beq_eq_false_iff_ne.2 n2,beq_eq_false_iff_ne.2 n3,beq_eq_false_iff_ne.2 n4,beq_eq_false_iff_ne.2 n5,beq_eq_false_iff_ne.2 n6,beq_eq_false_iff_ne.2 n7,beq_eq_false_iff_ne.2 n8,beq_eq_false_iff_ne.2 n9,beq_eq_false_iff_ne.2 n10,beq_eq_false_iff_ne.2 n11,IE q6 hx,IE q7 hy];refine(AB0 G sX op x y hx hy ox oy).use (k:=fun r=>ret r) (by rw[J5]; exact hT) hb (hk.trans kX) ?_;intro r3 l3 H3 e3 hS s3 k3;have hS:ret r3 l3=TOT:=hS;have hr:=(hw r3 l3 e3).2.2.2.1;have q8:=k3.keep _ _ q8 (by omega);obtain⟨f1,f2,f3,f4⟩:=SI hr s3 (kX.trans k3) (c:=H.length+2) (by omega) (by omega) (by simp) q8;simp -implicitDefEqProofs only[vQ,BD,↓reduceIte,jA,enP,jM,f1];rw[IY _ _ _ _ _ _ _ _ _ (show _=AV.ptr (H.length+2) 0 0 by simp -implicitDefEqProofs only[AA,↓reduceIte,jA]),IE f2 hr];exact⟨_,rfl,_,_,hS.symm,rfl,f3,f4⟩
end
def fnm (x:ByteArray):List Vr→Option Nat
 | []=>none
 | v :: r=>if JS x v=true then some 0 else (fnm x r).map (·+1)
theorem ZB (x:ByteArray) : ∀ l:List Vr,match fnm x l with
  | some i=>plc l x=(i:Nat)∧i < l.length
  | none=>plc l x < 0
 | []=>by simp [fnm,plc,MK]
 | v :: r=>by
   have ih:=ZB x r;unfold plc at ih ⊢;unfold fnm MK;by_cases h:JS x v=true
   ·rw[if_pos h,if_pos h]; simp
   ·rw[if_neg h,if_neg h]
    cases hr:fnm x r with
    | none=>rw[hr] at ih; simp only[wB]; rw[if_pos ih]; decide
    | some i =>
      rw[hr] at ih;obtain⟨i1,i2⟩:=ih;simp only[qU];rw[if_neg (by omega),i1];exact⟨by omega,by simp; omega⟩
theorem AG5 {x:ByteArray}{l:List Vr}{i:Nat}(h:fnm x l=some i):i < l.length:=by have:=ZB x l; rw[h] at this; exact this.2
def nmR:List Vr→Nat→List (AV × AV)
 | [],_ => []
 | v :: r,i=>(.str v.name,.int .i64 (i:Nat)) :: nmR r (i+1)
theorem AVP (l:List Vr)(v:Vr) : ∀ i,nmR (l++[v]) i=nmR l i++[(.str v.name,.int .i64 ((i+l.length:Nat):Int))]:=by
 induction l with
 | nil=>intro i; simp [nmR]
 | cons m r ih=>intro i; simp only[List.cons_append,nmR,zY]; rw[ih (i+1),show i+1+r.length=i+(r.length+1) by omega]
theorem ANL : ∀ (l:List Vr) (i k:Nat),k < l.length→∃ a,(nmR l i)[k]? = some (a,.int .i64 ((i+k:Nat):Int))
 | [],i,k,h=>by simp at h
 | n :: r,i,0,_=>⟨_,by simp [nmR]; rfl⟩
 | n :: r,i,k+1,h=>by
   simp only[nmR,jT];obtain⟨a,ha⟩:=ANL r (i+1) k (by simpa using h);exact⟨a,by rw[ha,show i+1+k=i+(k+1) by omega]⟩
theorem A0J:Tryz.prog.underlying 9=some .string:=by kernel_rfl
theorem AXK:Tryz.prog.underlying 76=some (.map 9 3):=by kernel_rfl
theorem kt9 (x:ByteArray):QU Tryz.prog 9 (.str x)=true:=by unfold QU; rw[A0J]
theorem ke9 (x y:ByteArray):MO Tryz.prog 9 (.str x) (.str y)=some (x.toList == y.toList):=by unfold MO; rw[A0J]
theorem ADK (x:ByteArray) : ∀ (l:List Vr) (i:Nat),Q3 Tryz.prog 9 (.str x) (nmR l i)=some (fnm x l)
 | [],i=>rfl
 | v :: r,i=>by
   have ih:=ADK x r (i+1);have hc:(x.toList == v.name.toList)=JS x v:=by unfold JS; exact Bool.beq_comm
   simp only[nmR,Q3,ke9,fnm,hc];by_cases h:JS x v=true
   ·rw[if_pos h,h]
   ·rw[if_neg h,show JS x v=false by simpa using h]
    simp only[ih];cases fnm x r <;> rfl
theorem ANV {H:Hp}{b:Nat}{l:List Vr}(hb:H[b]? = some (.map (nmR l 0)))(x:ByteArray)(ok:Bool):JV Tryz.prog H 76 (.mp b) (.str x) ok=some (match fnm x l with
  | some i=>if ok then .tup [.int .i64 (i:Nat),.bool true] else .int .i64 (i:Nat)
  | none=>if ok then .tup [.int .i64 0,.bool false] else .int .i64 0):=by
 have hf:=ADK x l 0;unfold JV;simp only[AXK,hb,kt9,if_true,hf,zr3]
 cases hx:fnm x l with
 | none=>rfl
 | some i =>
   obtain⟨a,ha⟩:=ANL l 0 i (AG5 hx);rw[jG] at ha;simp [ha]
theorem AR4 {H:Hp}{b:Nat}{l:List Vr}(hb:H[b]? = some (.map (nmR l 0)))(v:Vr)(hv:fnm v.name l=none):JX Tryz.prog H 76 (.mp b) (.str v.name) (.int .i64 (l.length:Nat))=some (H.set b (.map (nmR (l++[v]) 0))):=by
 have hf:=ADK v.name l 0;unfold JX;simp only[AXK,hb,kt9,if_true,hf,hv];rw[AVP,jG]
structure VrOk (v:Vr) (lv:Int):Prop where
 st:v.mode=0→0≤v.value∧v.value≤65535
 rn:v.mode≠0→1≤v.width∧v.width≤8∧0≤lv∧lv+v.width≤20
def vbL (e:Nat):Nat→Nat→M (List Nat)
 | 0,_=>ret []
 | n+1,k=>(mk (e - 1 - k) 0 1).bnd fun b=>(vbL e n (k+1)).bnd fun r=>ret (b :: r)
def AAC (v:Vr)(lv:Int):M Wrd:=if v.mode=0 then ret (cst v.value.toNat) else (vbL (lv+v.width).toNat v.width.toNat 0).bnd fun d=>ret (d++jJ (16 - v.width.toNat) 0)
theorem AME {l:Dg}(v:VD l){lv:Nat}(h:lv < 20):Sp l (mk lv 0 1) fun r l'=>r < l'.length∧Pw l' fun L => ∀ β,ev L β r=β lv:=by
 refine(ANN v h v.p0 v.p1 (by rw[v.n0]; exact h) (by rw[v.n1]; exact h)).mono fun r l' v' x' q => ?_
 have key:r < l'.length∧∀ β,ev l' β r=β lv:=by
  refine⟨?_,fun β => ?_⟩
  ·first | exact q.1 | exact q.2.1
  ·have:=q.2.2 β
   simp [UA,AS9] at this;exact this
 exact⟨key.1,fun L vL xL β=>by rw[xL.ev v' vL β key.1]; exact key.2 β⟩
structure Pk (p:Pr) (lvs:List Int) (lm:SM) (mb:Nat) (rest:List AV):Prop where
 e:rest=EE p++[.sl lm 1 (lvs.map qencI),.mp mb]
 ok : ∀ (i:Nat) (hi:i < p.vars.length),VrOk p.vars[i] (lvs.getD i 0)
 ln:lvs.length=p.vars.length
theorem Pk.n {p:Pr}{lvs:List Int}{lm:SM}{mb:Nat}{rest:List AV}(k:Pk p lvs lm mb rest):rest.length=7:=by rw[k.e]; rfl
section
variable (G:Nat→AV) {bb:Nat} {rest:List AV} {p:Pr} {lvs:List Int} {lm:SM} {mb:Nat}
theorem Pk.l1 (k:Pk p lvs lm mb rest){l:Dg}{H:Hp}(s:PS bb rest l H):DF Tryz.prog H 22 (.ptr bb 0 1)=some (.sl p.vm 4 (p.vars.map FB)):=by
 obtain⟨m,h⟩:=s.b;rw[DJ TI h (row := .sl m 3 (l.map D6) :: rest) rfl,k.e]; rfl
theorem Pk.l6 (k:Pk p lvs lm mb rest){l:Dg}{H:Hp}(s:PS bb rest l H):DF Tryz.prog H 29 (.ptr bb 0 6)=some (.sl lm 1 (lvs.map qencI)):=by
 obtain⟨m,h⟩:=s.b;rw[DJ AQC h (row := .sl m 3 (l.map D6) :: rest) rfl,k.e]; rfl
theorem Pk.l7 (k:Pk p lvs lm mb rest){l:Dg}{H:Hp}(s:PS bb rest l H):DF Tryz.prog H 76 (.ptr bb 0 7)=some (.mp mb):=by
 obtain⟨m,h⟩:=s.b;rw[DJ A3I h (row := .sl m 3 (l.map D6) :: rest) rfl,k.e]; rfl
theorem AM2 {α:Type}(e n k:Nat)(d:Wrd)(K:Wrd→M α):((vbL e (n+1) k).bnd fun r=>K (d++r))=(mk (e - 1 - k) 0 1).bnd fun a=>(vbL e n (k+1)).bnd fun r=>K ((d++[a])++r):=by
 show((mk (e - 1 - k) 0 1).bnd fun a=>(vbL e n (k+1)).bnd fun s=>ret (a :: s)).bnd _=_;rw[GH];refine congrArg (M.bnd _) (funext fun a => ?_);rw[GH];refine congrArg (M.bnd _) (funext fun r => ?_);show K (d++(a :: r))=_;rw[zJ]; rfl
set_option maxHeartbeats 4000000 in
theorem AEN {H:Hp}{l:Dg}(s:PS bb rest l H)(hP:Pk p lvs lm mb rest)(hmb:H[mb]? = some (.map (nmR p.vars 0)))(x:ByteArray)(i:Nat)(hi:fnm x p.vars=some i)(hil:i < p.vars.length):Ct G bb rest 75 [.ptr bb 0 0,.str x] H l (AAC p.vars[i] (lvs.getD i 0)) wA:=by
 intro base Bad hk hb;have hok:=hP.ok i hil;have hiv:i < lvs.length:=by rw[hP.ln]; exact hil
 have llv:DF Tryz.prog H 3 (.fptr 1 (lvs.map qencI) i 0)=some (.int .i64 (lvs.getD i 0)):=by
  rw[FX ag3 hiv,zM,jX hiv]; rfl
 have llv : ∀ H:Hp,DF Tryz.prog H 3 (.fptr 1 (lvs.map qencI) i 0)=some (.int .i64 (lvs.getD i 0)):=fun H=>llv
 generalize lvs.getD i 0=lv at hok llv hb ⊢;have lvv : ∀ H:Hp,DF Tryz.prog H 65 (.fptr 4 (p.vars.map FB) i 0)=some (.agg (FB p.vars[i])):=fun H=>ldV hil
 generalize p.vars[i]=v at hok lvv hb ⊢;generalize hT:AAC v lv l=TOT at hb;refine I5 (H:=Hint.none) (enM G) Tryz.func75 rfl (by kernel_rfl) (by kernel_rfl) (jH (by kernel_rfl)) ?_;show awp _ _ _ _ _ (EK _ [.cell 4 74] _);have sl:=s.lt;have ml:=CB hmb;have q4:isW (H++[ABlk.live 16 [cW (jJ 16 0)]]) H.length (jJ 16 0):=CU _ _;have s0:=s.app (ABlk.live 16 [cW (jJ 16 0)]);have k0:=(Kb.rfl' bb H).app (ABlk.live 16 [cW (jJ 16 0)]);have m0:(H++[ABlk.live 16 [cW (jJ 16 0)]])[mb]? = some (.map (nmR p.vars 0)):=BR hmb;have e0:(H++[ABlk.live 16 [cW (jJ 16 0)]]).length=H.length+1:=by simp
 have lk:=ANV m0 x false;rw[hi] at lk;have lk:JV Tryz.prog (H++[ABlk.live 16 [cW (jJ 16 0)]]) 76 (.mp mb) (.str x) false=some (.int .i64 (i:Nat)):=lk;simp -implicitDefEqProofs only[vQ,BD,↓reduceIte,jA,enP,ALW,UH];generalize H++[ABlk.live 16 [cW (jJ 16 0)]]=A at q4 s0 k0 m0 e0 lk ⊢;have a1:DF Tryz.prog A 22 (.ptr bb 0 1)=some (.sl p.vm 4 (p.vars.map FB)):=hP.l1 s0;have a7:DF Tryz.prog A 76 (.ptr bb 0 7)=some (.mp mb):=hP.l7 s0;simp -implicitDefEqProofs only[vQ,BD,SN,↓reduceIte,jA,enP,J9,AZO,a7,lk];simp -implicitDefEqProofs only[vQ,BD,↓reduceIte,jA,enP,QH,MR,jM,a1,EW hil,lvv,Bd.al61,Bd.st61];have q4:isW (A++[ABlk.live 4 [FB v]]) H.length (jJ 16 0):=BR q4;have q6:(A++[ABlk.live 4 [FB v]])[A.length]? = some (.live 4 [FB v]):=CU _ _;have s0:=s0.app (ABlk.live 4 [FB v]);have k0:=k0.app (ABlk.live 4 [FB v]);have ex:ext A (A++[ABlk.live 4 [FB v]]):=⟨_,rfl⟩;generalize A++[ABlk.live 4 [FB v]]=B at q4 q6 s0 k0 ex ⊢;have lB:=CB q6;have g1 : ∀ {H':Hp},H'[A.length]? = some (.live 4 [FB v])→DF Tryz.prog H' 3 (.ptr A.length 0 1)=some (.int .i64 v.width):=fun q=>by rw[DJ ag3 q rfl]; rfl
 have g2:DF Tryz.prog B 3 (.ptr A.length 0 2)=some (.int .i64 v.mode):=by rw[DJ ag3 q6 rfl]; rfl
 have g3:DF Tryz.prog B 3 (.ptr A.length 0 3)=some (.int .i64 v.value):=by rw[DJ ag3 q6 rfl]; rfl
 simp -implicitDefEqProofs only[vQ,BD,↓reduceIte,enP,g2];refine CZ (fun hc => ?_) (fun hc => ?_)
 ·have hm:v.mode=0:=by simpa using hc
  obtain⟨z0,z1⟩:=hok.st hm;obtain⟨z,hz⟩:=qM z0;unfold AAC at hT;rw[if_pos hm] at hT;rw[hz] at g3 z1;have hT:ret (cst z) l=TOT:=by rw[← hT,hz]; rfl
  simp -implicitDefEqProofs only[vQ,BD,↓reduceIte,jA,enP,VE,g3];refine(pcX (OC G z (by omega) B)).use ?_;obtain⟨f1,f2,f3,f4⟩:=SI (G8 z) s0 k0 (c:=H.length) (by omega) (by omega) (by simp) q4;simp -implicitDefEqProofs only[vQ,BD,↓reduceIte,jA,enP,jM,f1];rw[IY _ _ _ _ _ _ _ _ _ (show _=AV.ptr H.length 0 0 by simp -implicitDefEqProofs only[AA,↓reduceIte,jA]),IE f2 (G8 z)];exact⟨_,rfl,_,_,hT.symm,rfl,f3,f4⟩
 ·have hm : ¬ v.mode=0:=by simpa using hc
  obtain⟨w1,w8,lv0,lv20⟩:=hok.rn hm;obtain⟨w,hw⟩:=qM (show 0≤v.width by omega);obtain⟨u,hu⟩:=qM lv0;subst hu;rw[hw] at g1 w1 w8 lv20;unfold AAC at hT;rw[if_neg hm,hw,show((u:Int)+(w:Int)).toNat=u+w by omega,qV] at hT
  let K:Wrd→M Wrd:=fun d=>ret (d++jJ (16 - w) 0)
  have hT:((vbL (u+w) w 0).bnd fun r=>K ([]++r)) l=TOT:=hT;simp -implicitDefEqProofs only[vQ,BD,↓reduceIte,jA,enP,LM,UH,g1 (BR q6)];have q4:isW (B++[ABlk.live 16 [cW (jJ 16 0)]]) H.length (jJ 16 0):=BR q4;have q6:(B++[ABlk.live 16 [cW (jJ 16 0)]])[A.length]? = some (.live 4 [FB v]):=BR q6;have q7:isW (B++[ABlk.live 16 [cW (jJ 16 0)]]) B.length (jJ 16 0):=CU _ _;have s0:=s0.app (ABlk.live 16 [cW (jJ 16 0)]);have k0:=k0.app (ABlk.live 16 [cW (jJ 16 0)]);have hlC:B.length < (B++[ABlk.live 16 [cW (jJ 16 0)]]).length:=by simp
  generalize B++[ABlk.live 16 [cW (jJ 16 0)]]=C at q4 q6 q7 s0 k0 hlC ⊢;refine F8 0 (fun F H' => ∃ d l',d.length=16∧TOT=some (d,l')∧PS bb rest l' H'∧Kb bb H H'∧isW H' B.length d∧isW H' H.length (jJ 16 0)∧F 4 = .ptr H.length 0 0∧F 7 = .ptr B.length 0 0) (fun _ _=>False) ?_ ?_ (fun _ _ q=>q.elim)
  ·refine DX (fun n F H' => ∃ k d l',n+k=w∧d.length=k∧((vbL (u+w) n k).bnd fun r=>K (d++r)) l'=TOT∧PS bb rest l' H'∧Kb bb H H'∧isW H' H.length (jJ 16 0)∧H'[A.length]? = some (.live 4 [FB v])∧isW H' B.length (d++jJ (16 - k) 0) ∧
    F 0 = .ptr bb 0 0∧F 4 = .ptr H.length 0 0∧F 5 = .int .i64 (i:Nat)∧F 6 = .ptr A.length 0 0∧F 7 = .ptr B.length 0 0∧F 30 = .int .i64 (w:Nat)∧F 31 = .int .i64 (k:Nat)) w
    ⟨0,[],l,by omega,rfl,hT,s0,k0,q4,q6,q7,by simp -implicitDefEqProofs only[vQ,↓reduceIte,jA],by simp -implicitDefEqProofs only[AA,↓reduceIte,jA],by simp -implicitDefEqProofs only[AA,↓reduceIte,jA],by simp -implicitDefEqProofs only[AA,↓reduceIte,jA],by simp -implicitDefEqProofs only[AA,↓reduceIte,jA],by simp -implicitDefEqProofs only[AA,↓reduceIte,jA],by simp -implicitDefEqProofs only[AA,↓reduceIte]; rfl⟩ ?_
   clear q4 q6 q7 s0 k0 hlC;rintro n F H0 ⟨k,d,l0,hn,hd,hS,s',k',q4,q6,q7,f0,f4,f5,f6,f7,f30,f31⟩;have ec:decide (((k:Nat):Int) < (w:Nat))=decide (k < w):=by rw[decide_eq_decide]; omega
   simp -implicitDefEqProofs only[vQ,BD,↓reduceIte,enP,f30,f31,ec];refine CZ (fun hc => ?_) (fun hc => ?_)
   ·have hk':k < w:=by simpa using hc
    obtain⟨n,rfl⟩ : ∃ n',n=n'+1:=⟨n - 1,by omega⟩
    rw[AM2] at hS;obtain⟨m,hl⟩:=s'.ld;have a6:DF Tryz.prog H0 29 (.ptr bb 0 6)=some (.sl lm 1 (lvs.map qencI)):=hP.l6 s';have z1:IntKind.i64.wrap ((u:Int)+(w:Int))=((u+w:Nat):Int):=by rw[wrap_i64 (by omega) (by omega)]; omega
    have z2:IntKind.i64.wrap (((u+w:Nat):Int) - 1)=((u+w - 1:Nat):Int):=by rw[wrap_i64 (by omega) (by omega)]; omega
    have z3:IntKind.i64.wrap (((u+w - 1:Nat):Int) - (k:Nat))=((u+w - 1 - k:Nat):Int):=by rw[wrap_i64 (by omega) (by omega)]; omega
    have hlv:u+w - 1 - k < 20:=by omega
    simp -implicitDefEqProofs only[vQ,BD,↓reduceIte,jA,f31];refine ES (.ones [0,1,2,3,4,5,6,7,8,9,10,11,12,13,14,15,16,17,18,19,20,21,22] (.alt 23 (.ones [24,25] .done) .non)) (by kernel_rfl) ?_;simp only[DN,IA,jT,jS];simp -implicitDefEqProofs only[vQ,L6,BD,KZ,↓reduceIte,jA,jO,enP,KP,LM,VC,AZN,f0,f5,f6,f31,hl,a6,EW hiv,llv,g1 q6,z1,z2,z3];have b0:=s'.lt;have kl:=k'.len
    obtain⟨yd,y1,y2,e,hc⟩ : ∃ (x:AV) (y z:Int),dgV (mk (u+w - 1 - k) 0 1 l0) = .tup [.agg [x],.int .i64 y,.int .i64 z]∧∀ K:AV→Hp→Prop,(∀ r l' H',mk (u+w - 1 - k) 0 1 l0=some (r,l')→PS bb rest l' H'→Kb bb H0 H'→K (iA r) H')→ACalls ((En G).wx (X0 bb base Bad)) 138 [.ptr bb 0 0,.agg [x],.int .i64 y,.int .i64 z] H0 K:=by
     obtain⟨x,y,z,e,hc⟩:=kept G s' (m:=mk (u+w - 1 - k) 0 1) (fun r l1 e=>(AME s'.v hlv r l1 e).1) (base:=base) (Bad:=Bad) (K:=fun v H' => ∃ r l',mk (u+w - 1 - k) 0 1 l0=some (r,l')∧PS bb rest l' H'∧Kb bb H0 H'∧v=iA r) (hk.trans k') (fun q=>hb (by rw[← hS,P8 q])) fun r l' H' e s k=>⟨r,l',e,s,k,rfl⟩
     exact⟨x,y,z,e,fun K hK=>ACalls.mono hc fun v H' ⟨r,l',e,s,k,hv⟩=>by rw[hv]; exact hK r l' H' e s k⟩
    refine⟨_,pcX (by have:=ATV G l0 m s'.v _ hlv H0; rw[e] at this; exact this),?_⟩;simp -implicitDefEqProofs only[vQ,jS,jT,L6,↓reduceIte,jA,jO];refine⟨hc _ fun a l1 H1 ea s1 k1 => ?_,trivial⟩;rw[MX ea] at hS;have q4:=k1.keep _ _ q4 (by omega);have q6:=k1.keep _ _ q6 (by omega);have q7:=k1.keep _ _ q7 (by omega);have hst:=stW (n:=a) q7 (i:=k) (by rw[IJ hd (by omega)]; omega);rw[MP hd (by omega)] at hst;simp -implicitDefEqProofs only[vQ,BD,↓reduceIte,jA,enP,jM,f7,f31,QG (show k < 16 by omega),hst,wrap_succ (show k < 9223372036854775807 by omega)];have ne : ∀ {c:Nat} {y B':ABlk},H1[c]? = some y→c≠B.length→(H1.set B.length B')[c]? = some y:=fun q hne=>by rw[jU (Ne.symm hne)]; exact q
    refine⟨n,by omega,k+1,d++[a],l1,by omega,by simp [hd],hS,s1.set (by omega) _,(k'.trans k1).setN (by omega) _,ne q4 (by omega),ne q6 (by omega),DZ q7,by trivial,by trivial,by trivial,by trivial,by trivial,by trivial,by trivial⟩
   ·have hk':k=w:=by have hc' : ¬ k < w:=fun q=>by rw[decide_eq_true q] at hc; cases hc
                     omega
    subst hk';have:n=0:=by omega
    subst this;have hS:ret (d++jJ (16 - k) 0) l0=TOT:=by rw[← hS]; show K d l0=K (d++[]) l0; rw[jD]
    simp -implicitDefEqProofs only[vQ,↓reduceIte,jA];exact⟨_,l0,by simp; omega,hS.symm,s',k',q7,q4,f4,f7⟩
  ·rintro F H' ⟨d,l',hd,e,s',k',q7,q4,f4,f7⟩
   simp -implicitDefEqProofs only[vQ,BD,↓reduceIte,jA,enP,jM,f4,f7,IE q7 hd,UZ q4 (by simp) hd];rw[IY _ _ _ _ _ _ _ _ _ (show _=AV.ptr H.length 0 0 by first | exact f4 | (simp -implicitDefEqProofs only[f4])),IE (DZ q4) hd];exact⟨_,rfl,d,l',e,rfl,s'.set (by omega) _,k'.setN (by omega) _⟩
end
def Vs (l:Dg)(m:M Wrd)(V:Dg→(Nat→Bool)→Nat):Prop:=Sp l m fun r l'=>(r.length=16∧LOk l' r)∧Pw l' fun L => ∀ β,val L β r=V L β
theorem Vs.ws {l:Dg}{m:M Wrd}{V:Dg→(Nat→Bool)→Nat}(h:Vs l m V):Ws l m:=Ws.of h
theorem A0O (b:Bool):tn b=tr b:=rfl
theorem Vs.sgl {l:Dg}{m:M Nat}{T:Dg→(Nat→Bool)→Bool}(h:Sp l m fun r l'=>r < l'.length∧Pw l' fun L => ∀ β,ev L β r=T L β):Vs l (m.bnd fun r=>ret (Bl.sgl r)) fun L β=>tr (T L β) :=
 h.bnd fun r l1 v1 _ q=>Sp.ret v1 ⟨⟨JI r,LOk.sgl v1 q.1⟩,fun L vL xL β=>by rw[AM4,q.2 L vL xL β,A0O]⟩
theorem Vs.cast {l:Dg}{m:M Wrd}{V W:Dg→(Nat→Bool)→Nat}(h:Vs l m V)(e : ∀ L β,V L β=W L β):Vs l m W:=Sp.mono h fun _ _ _ _ q=>⟨q.1,fun L vL xL β=>by rw[q.2 L vL xL β,e]⟩
theorem ARU (L:Dg)(β:Nat→Bool) : ∀ xs:List Nat,onV L β xs=NI (val L β xs) xs.length:=by
 have step : ∀ (k o m:Nat),o < 2→NI (o+2 * m) (k+1)=o+NI m k:=by
  intro k
  induction k with
  | zero =>
    intro o m ho;show 0+AA2 (o+2 * m) 0=o+0;unfold AA2;rw[Nat.pow_zero,Nat.div_one]; omega
  | succ k ih =>
    intro o m ho;show NI (o+2 * m) (k+1)+AA2 (o+2 * m) (k+1)=o+(NI m k+AA2 m k);rw[ih o m ho]
    have:AA2 (o+2 * m) (k+1)=AA2 m k:=by
     unfold AA2;rw[Nat.pow_succ,Nat.mul_comm (2 ^ k) 2,← Nat.div_div_eq_div_mul,show(o+2 * m) / 2=m by omega]
    omega
 intro xs
 induction xs with
 | nil=>rfl
 | cons x xs ih =>
   simp only[onV,val,zY];rw[step _ _ _ (AIB _),ih]
theorem AYZ (a b:Nat):AKX true a b=AYX a (b:Nat):=by
 unfold AKX AYX;by_cases h:b < 16
 ·rw[if_pos h,if_pos rfl,if_neg (by omega)]; rfl
 ·rw[if_neg h,if_pos (by omega)]
theorem AYY (a b:Nat):AKX false a b=AEO a (b:Nat):=by
 unfold AKX AEO;by_cases h:b < 16
 ·rw[if_pos h,if_neg (by decide),if_neg (by omega)]; rfl
 ·rw[if_neg h,if_pos (by omega)]
section
variable {l:Dg} (v:VD l) {x y:Wrd} (hx:x.length=16) (hy:y.length=16) (ox:LOk l x) (oy:LOk l y)
include v hx hy ox oy
theorem AQR (op:Nat→Nat→M Nat)(b:B3)(h : ∀ f g,op f g=ap b f g g)(f:Nat→Nat→Nat)(hf : ∀ a c,a < 65536→c < 65536→f a c < 65536)(hb : ∀ a c i,(f a c).testBit i=b (a.testBit i) (c.testBit i) (c.testBit i)) :
  Vs l (pr2 op x y) fun L β=>f (val L β x) (val L β y) :=
 (AC2 op (fun _ _ p q=>b p q q) l (fun l' f g v' _ hf hg=>by rw[h]; exact UG b v' hf hg hg) x y l v (Xt.rfl' l) (by omega) ox oy).mono fun r _ _ _ q=>⟨⟨by omega,q.1.2⟩,fun L vL xL β=>by
  have h1:=QP L β x;have h2:=QP L β y;rw[hx] at h1;rw[hy] at h2;refine QQ (by omega) (hf _ _ h1 h2) fun k hk => ?_
  rw[q.2 L vL xL β k (by omega),hb,RX,RX]⟩
theorem AYQ (op:Int)(hop:7≤op∧op≤21):Vs l (PE op x y) fun L β=>dbW op (val L β x) (val L β y):=by
 have hcase:op=7∨op=8∨op=9∨op=10∨op=11∨op=12∨op=13∨op=14∨op=15∨op=16∨op=17∨op=18∨op=19∨op=20∨op=21:=by omega
 have lt16 : ∀ (L:Dg) (β:Nat→Bool),val L β x < 65536∧val L β y < 65536:=fun L β=>⟨by have:=QP L β x; rw[hx] at this; exact this,by have:=QP L β y; rw[hy] at this; exact this⟩
 rcases hcase with rfl | rfl | rfl | rfl | rfl | rfl | rfl | rfl | rfl | rfl | rfl | rfl | rfl | rfl | rfl
 ·show Vs l (PD x y 0) fun L β=>(val L β x+val L β y) % 65536
  refine(PN x y l 0 v (by omega) ox oy v.p0).mono fun r _ _ _ q=>⟨⟨by omega,q.1.2⟩,fun L vL xL β => ?_⟩
  rw[q.2 L vL xL β,hx,UA]; rfl
 ·show Vs l (AAX x y) fun L β=>(val L β x+65536 - val L β y) % 65536
  exact ACD v hx hy ox oy
 ·show Vs l (XG x 0 y (cst 0)) fun L β=>val L β x * val L β y % 65536
  refine(AB5 x hx y 0 l (cst 0) v (by omega) ox oy (G8 0) (LOk.cst v 0)).mono fun r _ _ _ q=>⟨q.1,fun L vL xL β => ?_⟩
  rw[q.2 L vL xL β,VV]; simp
 ·exact AQR v hx hy ox oy JR AJ6 (fun _ _=>rfl) (fun a b=>a &&& b) (fun a c h1 h2=>Nat.lt_of_le_of_lt Nat.and_le_left h1) fun a c i=>Nat.testBit_and a c i
 ·exact AQR v hx hy ox oy oOr bOr (fun _ _=>rfl) (fun a b=>a ||| b) (fun a c h1 h2=>Nat.or_lt_two_pow (n:=16) h1 h2) fun a c i=>Nat.testBit_or a c i
 ·exact AQR v hx hy ox oy NL AJ5 (fun _ _=>rfl) (fun a b=>a ^^^ b) (fun a c h1 h2=>Nat.xor_lt_two_pow (n:=16) h1 h2) fun a c i=>by rw[Nat.testBit_xor]; rfl
 ·exact Vs.cast (U0 true v hx hy ox oy) fun L β=>AYZ _ _
 ·exact Vs.cast (U0 false v hx hy ox oy) fun L β=>AYY _ _
 ·refine Vs.cast (Vs.sgl (VI x y l 1 v (by omega) ox oy v.p1)) fun L β => ?_
  show _=tr _;rw[AS9,qJ]
 ·show Vs l ((eqL x y 1).bnd fun e=>(LH e).bnd fun r=>ret (sgl r)) _
  refine(VI x y l 1 v (by omega) ox oy v.p1).bnd ?_;rintro n l3 v3 x3 ⟨h3,e3⟩;refine Sp.mono (Vs.sgl (N9 v3 h3)) fun r l4 v4 x4 q=>⟨q.1,fun L vL xL β => ?_⟩
  rw[q.2 L vL xL β];show tr (!ev L β n)=_;rw[e3 L vL (x4.trans xL),AS9,qJ]; rfl
 ·refine Vs.cast (Vs.sgl (TZ x y l 0 v (by omega) ox oy v.p0)) fun L β => ?_
  show _=tr _;rw[UA,Bool.and_false,jV]
 ·show Vs l ((lsL y x 0).bnd fun e=>(LH e).bnd fun r=>ret (sgl r)) _
  refine(TZ y x l 0 v (by omega) oy ox v.p0).bnd ?_;rintro n l3 v3 x3 ⟨h3,e3⟩;refine Sp.mono (Vs.sgl (N9 v3 h3)) fun r l4 v4 x4 q=>⟨q.1,fun L vL xL β => ?_⟩
  rw[q.2 L vL xL β];show tr (!ev L β n)=tr _;rw[e3 L vL (x4.trans xL),UA,Bool.and_false,jV];congr 1;rw[Bool.eq_iff_iff]; simp
 all_goals
  show Vs l (lgL _ x y) _;unfold lgL;refine(QA x l 0 v ox v.p0).bnd ?_;rintro s l1 v1 x1 ⟨h1,e1⟩;refine(QA y l1 0 v1 (oy.go x1) v1.p0).bnd ?_;rintro t l2 v2 x2 ⟨h2,e2⟩
 ·rw[if_pos rfl]
  refine Sp.mono (Vs.sgl (OE v2 (x2.lt h1) h2)) fun r l4 v4 x4 q=>⟨q.1,fun L vL xL β => ?_⟩
  rw[q.2 L vL xL β];show tr (ev L β s && ev L β t)=tr _;rw[e2 L vL (x4.trans xL),e1 L vL (x2.trans (x4.trans xL)),UA,qF,qF]
 ·rw[if_neg (by decide),if_pos rfl]
  refine Sp.mono (Vs.sgl (UJ v2 (x2.lt h1) h2)) fun r l4 v4 x4 q=>⟨q.1,fun L vL xL β => ?_⟩
  rw[q.2 L vL xL β];show tr (ev L β s || ev L β t)=tr _;rw[e2 L vL (x4.trans xL),e1 L vL (x2.trans (x4.trans xL)),UA,qF,qF]
 ·rw[if_neg (by decide),if_neg (by decide)]
  refine(N9 v2 (x2.lt h1)).bnd ?_;rintro n l3 v3 x3 ⟨h3,e3⟩;refine Sp.mono (Vs.sgl (UJ v3 h3 (x3.lt h2))) fun r l4 v4 x4 q=>⟨q.1,fun L vL xL β => ?_⟩
  have X3:=x4.trans xL;have X2:=x3.trans X3;rw[q.2 L vL xL β];show tr (ev L β n || ev L β t)=tr _;rw[e3 L vL X3,e2 L vL X2,e1 L vL (x2.trans X2),UA];simp
end
def bv (β:Nat→Bool)(e:Nat):Nat→Nat→Nat
 | 0,_=>0
 | n+1,k=>tn (β (e - 1 - k))+2 * bv β e n (k+1)
def vrV (v:Vr)(lv:Int)(β:Nat→Bool):Nat:=if v.mode=0 then v.value.toNat else bv β (lv+v.width).toNat v.width.toNat 0
theorem AQT (e:Nat)(he:e≤20) : ∀ (n k:Nat) (l:Dg),VD l→k+n≤e→Sp l (vbL e n k) fun r l'=>(r.length=n∧LOk l' r)∧Pw l' fun L => ∀ β,val L β r=bv β e n k
 | 0,k,l,v,_=>Sp.ret v ⟨⟨rfl,LOk.nil l⟩,fun L _ _ β=>rfl⟩
 | n+1,k,l,v,hk=>by
   unfold vbL;refine(AME v (show e - 1 - k < 20 by omega)).bnd ?_;rintro b l1 v1 x1 ⟨h1,e1⟩;refine(AQT e he n (k+1) l1 v1 (by omega)).bnd ?_;rintro r l2 v2 x2 ⟨⟨h2,h2'⟩,e2⟩;refine Sp.ret v2 ⟨⟨by simp [h2],LOk.cons (x2.lt h1) h2'⟩,fun L vL xL β => ?_⟩;simp only[val,bv];rw[e2 L vL xL,e1 L vL (x2.trans xL)]
theorem AM3 {l:Dg}(v:VD l)(x:Vr)(lv:Int)(h:VrOk x lv):Vs l (AAC x lv) fun _ β=>vrV x lv β:=by
 unfold AAC vrV;by_cases hm:x.mode=0
 ·rw[if_pos hm]
  obtain⟨z0,z1⟩:=h.st hm;refine Sp.ret v ⟨⟨G8 _,LOk.cst v _⟩,fun L _ _ β => ?_⟩;rw[VV,Nat.mod_eq_of_lt (by omega)];exact(if_pos hm).symm
 ·rw[if_neg hm]
  obtain⟨w1,w8,l0,l20⟩:=h.rn hm;refine(AQT _ (by omega) x.width.toNat 0 l v (by omega)).bnd ?_;rintro r l2 v2 x2 ⟨⟨h2,h2'⟩,e2⟩;refine Sp.ret v2 ⟨⟨by simp [h2]; omega,h2'.app (LOk.zeros v2 _)⟩,fun L vL xL β => ?_⟩;rw[AGI,VU,e2 L vL xL,Nat.mul_zero,jL];exact(if_neg hm).symm
def wOp (p:Pr)(lvs:List Int)(op n:Int)(name:ByteArray)(ws:List Wrd):M Wrd :=
 if op=1 then ret (cst n.toNat) else if op=2 then (match fnm name p.vars with
  | some i=>match p.vars[i]? with
    | some v=>AAC v (lvs.getD i 0)
    | none=>ret []
  | none=>ret [])
 else if op=4 then (trL (ws.getD 0 []) 0).bnd fun t=>(LH t).bnd fun r=>ret (sgl r)
 else if op=5 then cmpL (ws.getD 0 [])
 else if op=6 then AAX (cst 0) (ws.getD 0 [])
 else if op=25 then onL (ws.getD 0 []) (cst 0)
 else if op=23 then (insL (ws.getD 0 []) (ws.drop 1) 0).bnd fun r=>ret (sgl r)
 else if op=22 then (trL (ws.getD 0 []) 0).bnd fun c=>pr2 (oCh c) (ws.getD 1 []) (ws.getD 2 [])
 else PE op (ws.getD 0 []) (ws.getD 1 [])
mutual
def ABQ (p:Pr)(lvs:List Int):Ex→M Wrd
 | .mk op n name _ args=>(RU p lvs args).bnd fun ws=>wOp p lvs op n name ws
def RU (p:Pr)(lvs:List Int):List Ex→M (List Wrd)
 | []=>ret []
 | e :: es=>(ABQ p lvs e).bnd fun w=>(RU p lvs es).bnd fun ws=>ret (w :: ws)
end
theorem AGE (p:Pr)(lvs:List Int)(e:Ex):ABQ p lvs e=(RU p lvs e.args).bnd fun ws=>wOp p lvs e.op e.n e.name ws:=by cases e; simp [ABQ,Ex.op,Ex.n,Ex.name,Ex.args]
theorem Z9 (p:Pr)(lvs:List Int):RU p lvs []=ret []:=by simp [RU]
theorem WY (p:Pr)(lvs:List Int)(e:Ex)(es:List Ex):RU p lvs (e :: es)=(ABQ p lvs e).bnd fun w=>(RU p lvs es).bnd fun ws=>ret (w :: ws):=by simp [RU]
structure NOk (p:Pr) (e:Ex):Prop where
 nd:JQ e=0
 na:e.op≠3∧e.op≠24
 vr:e.op=2→∃ i,fnm e.name p.vars=some i
def POk (p:Pr)(lvs:List Int):Prop := ∀ (i:Nat) (hi:i < p.vars.length),VrOk p.vars[i] (lvs.getD i 0)
def Agr (p:Pr)(lvs:List Int)(β:Nat→Bool)(l:List Sg):Prop := ∀ (name:ByteArray) (i:Nat) (hi:i < p.vars.length),fnm name p.vars=some i→AN8 l name=(vrV p.vars[i] (lvs.getD i 0) β,true)
theorem AC4 {e:Ex}(h:JQ e=0):1≤e.op∧e.op≤25:=by
 unfold JQ at h;cases hb:UE e
 ·unfold UE at hb; simp at hb; omega
 ·rw[hb] at h; simp at h
theorem AAI {e:Ex}(h:JQ e=0):WH e.op e.args.length=true:=by
 unfold JQ at h
 have hO:UE e=false:=by
  cases hb:UE e
  ·rfl
  ·rw[hb] at h; simp at h
 have hN:AD4 e=false:=by
  cases hb:AD4 e
  ·rfl
  ·rw[hO,hb] at h; simp at h
 have hS:AA3 e=false:=by
  cases hb:AA3 e
  ·rfl
  ·rw[hO,hN,hb] at h; simp at h
 unfold AA3 at hS;rw[Bool.or_eq_false_iff] at hS;simpa using hS.2
theorem ar1 {e:Ex}(h:JQ e=0)(hq:e.op=4∨e.op=5∨e.op=6∨e.op=25):e.args.length=1:=by
 have hops:=AAI h;unfold WH at hops;rw[if_neg (by simp; omega)] at hops;have h5:arity e.op=1:=by unfold arity; rw[if_neg (by omega),if_neg (by omega),if_pos (by omega)]
 have h6:((e.args.length:Nat):Int)=arity e.op:=by simpa using hops
 omega
theorem ar2 {e:Ex}(h:JQ e=0)(hq:7≤e.op∧e.op≤21):e.args.length=2:=by
 have hops:=AAI h;unfold WH at hops;rw[if_neg (by simp; omega)] at hops;have h5:arity e.op=2:=by unfold arity; rw[if_neg (by omega),if_neg (by omega),if_neg (by omega),if_neg (by omega),if_neg (by omega)]
 have h6:((e.args.length:Nat):Int)=arity e.op:=by simpa using hops
 omega
theorem ASJ (L:Dg)(β:Nat→Bool)(x:Nat) : ∀ (n:Nat) (ws:List Wrd),ws.length≤n→ALO L β x ws=AV3 x (ws.map (val L β))
 | _,[],_=>rfl
 | _,[_],_=>rfl
 | 0,_ :: _ :: _,h=>by simp at h
 | n+1,a :: b :: r,h=>by
   simp only[ALO,jF,AV3];rw[ASJ L β x n r (by simp at h; omega)]
theorem APF (a:Nat):NI a 16 % 65536=NI a 16:=by have:=AAH a 16; omega
theorem AWP {a b:Nat}(h:a+b=65535):a=65535 - b:=by omega
theorem AYP {p:Pr}{lvs:List Int}(hp:POk p lvs){e:Ex}(he:NOk p e){l:Dg}(v:VD l){ws:List Wrd}(hl:ws.length=e.args.length)(hw : ∀ w∈ws,w.length=16∧LOk l w) :
  Sp l (wOp p lvs e.op e.n e.name ws) fun r l'=>(r.length=16∧LOk l' r)∧Pw l' fun L => ∀ β env,Agr p lvs β env→val L β r=AH9 env e.op e.n e.name (ws.map (val L β)):=by
 obtain⟨o1,_,oo⟩:=AC5 he.nd;have hr:=AC4 he.nd;obtain⟨n3,n24⟩:=he.na
 have gd : ∀ k,k < ws.length→(ws.getD k []).length=16∧LOk l (ws.getD k []):=fun k hk=>by
  rw[zM,jX hk]; exact hw _ (zC hk)
 have gm : ∀ (L:Dg) (β:Nat→Bool) (k:Nat),k < ws.length→(ws.map (val L β)).getD k 0=val L β (ws.getD k []):=fun L β k hk=>by
  rw[zM,zM,zL,jX hk]; rfl
 unfold wOp;by_cases h1:e.op=1
 ·rw[if_pos h1]
  refine Sp.ret v ⟨⟨G8 _,LOk.cst v _⟩,fun L _ _ β env _ => ?_⟩;unfold AH9;rw[if_pos h1,VV]
 rw[if_neg h1];by_cases h2:e.op=2
 ·rw[if_pos h2]
  obtain⟨i,hi⟩:=he.vr h2;have hil:=AG5 hi;rw[hi];simp only[jX hil];refine Sp.mono (AM3 v _ _ (hp i hil)) fun r l' _ _ q=>⟨q.1,fun L vL xL β env ha => ?_⟩
  unfold AH9;rw[if_neg h1,if_pos h2,ha _ i hil hi,q.2 L vL xL β]
 rw[if_neg h2];obtain⟨c22,c23,c1⟩:=oo h1 h2 n3 n24;rw[← hl] at c22 c23 c1;have hvo : ∀ (env:List Sg) (us:List Nat),AH9 env e.op e.n e.name us=opW e.op us:=fun env us=>by unfold AH9; rw[if_neg h1,if_neg h2,if_neg n3,if_neg n24]
 have pos:0 < ws.length:=by
  by_cases q:e.op=22
  ·have:=c22 q; omega
  by_cases q':e.op=23
  ·have:=c23 q'; omega
  ·have:=c1 q q'; omega
 obtain⟨x1,ox1⟩:=gd 0 pos
 have one:e.op≠22→e.op≠23→ws.length=1→∀ (L:Dg) (β:Nat→Bool) (env:List Sg),AH9 env e.op e.n e.name (ws.map (val L β))=sgW e.op (val L β (ws.getD 0 [])):=fun a b c L β env=>by
  rw[hvo]; unfold opW; rw[if_neg a,if_neg b,if_pos (by simpa using c),gm _ _ _ pos]
 have ar:=ar1 he.nd;by_cases h4:e.op=4
 ·rw[if_pos h4]
  refine(QA _ l 0 v ox1 v.p0).bnd ?_;rintro n l3 v3 x3 ⟨h3,e3⟩;refine Sp.mono (Vs.sgl (N9 v3 h3)) fun r l4 v4 x4 q=>⟨q.1,fun L vL xL β env _ => ?_⟩
  rw[q.2 L vL xL β];show tr (!ev L β n)=_;rw[e3 L vL (x4.trans xL),UA,qF,Bool.not_not,one (by omega) (by omega) (by have:=ar (by omega); omega)];unfold sgW; rw[if_pos h4]
 rw[if_neg h4];by_cases h5:e.op=5
 ·rw[if_pos h5]
  refine(ZR _ l v ox1).mono fun r l4 v4 x4 q=>⟨⟨by omega,q.1.2⟩,fun L vL xL β env _ => ?_⟩
  have:=q.2 L vL xL β;rw[x1] at this;rw[one (by omega) (by omega) (by have:=ar (by omega); omega)];unfold sgW; rw[if_neg h4,if_pos h5];exact AWP this
 rw[if_neg h5];by_cases h6:e.op=6
 ·rw[if_pos h6]
  refine(ACD v (G8 0) x1 (LOk.cst v 0) ox1).mono fun r l4 v4 x4 q=>⟨q.1,fun L vL xL β env _ => ?_⟩
  rw[q.2 L vL xL β,VV,one (by omega) (by omega) (by have:=ar (by omega); omega)];unfold sgW; rw[if_neg h4,if_neg h5,if_pos h6]
 rw[if_neg h6];by_cases h25:e.op=25
 ·rw[if_pos h25]
  refine(ARV _ l (cst 0) v ox1 (G8 0) (LOk.cst v 0)).mono fun r l4 v4 x4 q=>⟨q.1,fun L vL xL β env _ => ?_⟩
  rw[q.2 L vL xL β,VV,one (by omega) (by omega) (by have:=ar (by omega); omega)];unfold sgW; rw[if_neg h4,if_neg h5,if_neg h6];unfold ART;rw[ARU,x1,Nat.zero_mod,jG,APF]
 rw[if_neg h25];by_cases h23:e.op=23
 ·rw[if_pos h23]
  have hd : ∀ w∈ws.drop 1,w.length=16∧LOk l w:=fun w q=>hw w (List.mem_of_mem_drop q)
  refine Sp.mono (Vs.sgl (AGX _ x1 _ (ws.drop 1) l 0 (jQ _) v ox1 hd v.p0)) fun r l4 v4 x4 q=>⟨q.1,fun L vL xL β env _ => ?_⟩
  rw[q.2 L vL xL β];show tr (ev L β 0 || _)=_;rw[UA,qF,hvo];unfold opW;rw[if_neg (by omega),if_pos h23,gm _ _ _ pos,ASJ L β _ _ _ (jQ _),List.map_drop]
 rw[if_neg h23];by_cases h22:e.op=22
 ·rw[if_pos h22]
  have l3:=c22 h22;obtain⟨y1,oy1⟩:=gd 1 (by omega);obtain⟨z1,oz1⟩:=gd 2 (by omega);refine(QA _ l 0 v ox1 v.p0).bnd ?_;rintro c l3 v3 x3 ⟨h3,e3⟩;refine(AC2 (oCh c) (fun L β p q=>bCh (ev L β c) p q) l3 (fun l' f g v' x' hf hg=>UG bCh v' (x'.lt h3) hf hg) _ _ l3 v3 (Xt.rfl' _) (by omega) (oy1.go x3) (oz1.go x3)).mono fun r l4 v4 x4 q=>⟨⟨by omega,q.1.2⟩,fun L vL xL β env _ => ?_⟩
  rw[hvo];unfold opW;rw[if_pos h22,gm _ _ _ pos,gm _ _ _ (by omega),gm _ _ _ (by omega)];have hy:=QP L β (ws.getD 1 []);have hz:=QP L β (ws.getD 2 []);rw[y1] at hy;rw[z1] at hz;have ec:ev L β c = !(val L β (ws.getD 0 []) == 0):=by rw[e3 L vL (x4.trans xL),UA,qF]
  refine QQ (by omega) (by split <;> assumption) fun k hk => ?_
  rw[q.2 L vL xL β k (by omega),ec];by_cases hz0:val L β (ws.getD 0 [])=0
  ·rw[if_neg (by simpa using hz0),RX,hz0]; simp [bCh]
  ·rw[if_pos hz0,RX]
   have:(val L β (ws.getD 0 []) == 0)=false:=by simpa using hz0
   rw[this]; simp [bCh]
 rw[if_neg h22];have l2:=ar2 he.nd (by omega);rw[← hl] at l2;obtain⟨y1,oy1⟩:=gd 1 (by omega);refine Sp.mono (AYQ v x1 y1 ox1 oy1 e.op (by omega)) fun r l4 v4 x4 q=>⟨q.1,fun L vL xL β env _ => ?_⟩
 rw[q.2 L vL xL β,hvo];unfold opW;rw[if_neg h22,if_neg h23,if_neg (by rw[jR]; omega),gm _ _ _ pos,gm _ _ _ (by omega)]
def EOk (p:Pr)(e:Ex):Prop := ∀ x∈pre e,NOk p x
theorem EOk.self {p:Pr}{e:Ex}(h:EOk p e):NOk p e:=h e (by rw[pre_eq]; simp)
theorem EOk.arg {p:Pr}{e a:Ex}(h:EOk p e)(ha:a∈e.args):EOk p a:=fun x hx=>h x (by rw[pre_eq]; exact List.mem_cons_of_mem _ (YT ha x hx))
def WV (p:Pr)(lvs:List Int)(e:Ex)(l:Dg):Prop:=Sp l (ABQ p lvs e) fun r l'=>(r.length=16∧LOk l' r)∧Pw l' fun L => ∀ β env,Agr p lvs β env→val L β r=AQU env e
theorem AH2 {p:Pr}{lvs:List Int} : ∀ (es:List Ex) (l:Dg),VD l→(∀ e∈es,∀ l',VD l'→WV p lvs e l')→Sp l (RU p lvs es) fun ws l'=>(ws.length=es.length∧∀ w∈ws,w.length=16∧LOk l' w)∧Pw l' fun L => ∀ β env,Agr p lvs β env→ws.map (val L β)=AE5 env es
 | [],l,v,_=>by
   rw[Z9];exact Sp.ret v ⟨⟨rfl,fun _ h=>by cases h⟩,fun L _ _ β env _=>by simp [AE5]⟩
 | e :: es,l,v,h=>by
   rw[WY];refine(h e (by simp) l v).bnd ?_;rintro w l1 v1 x1 ⟨⟨h1,h1'⟩,e1⟩;refine(AH2 es l1 v1 fun a ha=>h a (by simp [ha])).bnd ?_;rintro ws l2 v2 x2 ⟨⟨h2,h2'⟩,e2⟩;refine Sp.ret v2 ⟨⟨by simp [h2],fun a ha => ?_⟩,fun L vL xL β env hA => ?_⟩
   ·rcases List.mem_cons.1 ha with rfl | ha
    ·exact⟨h1,h1'.go x2⟩
    ·exact h2' a ha
   ·rw[jF,e2 L vL xL β env hA,e1 L vL (x2.trans xL) β env hA]
    simp [AE5]
theorem YF {p:Pr}{lvs:List Int}(hp:POk p lvs)(e:Ex):EOk p e→∀ l:Dg,VD l→WV p lvs e l:=by
 induction e using Ex.induct with | h e ih => ?_
 intro he l v;unfold WV;rw[AGE];refine(AH2 e.args l v fun a ha l' v'=>ih a ha (he.arg ha) l' v').bnd ?_;rintro ws l1 v1 x1 ⟨⟨h1,h1'⟩,e1⟩;refine(AYP hp he.self v1 h1 h1').mono fun r l2 v2 x2 q=>⟨q.1,fun L vL xL β env hA => ?_⟩
 rw[q.2 L vL xL β env hA,e1 L vL (x2.trans xL) β env hA,AU1]
def YI (p:Pr)(lvs:List Int)(e:Ex):M Nat:=(ABQ p lvs e).bnd fun w=>trL w 0
theorem AGJ {p:Pr}{lvs:List Int}(hp:POk p lvs){e:Ex}(he:EOk p e){l:Dg}(v:VD l):Sp l (YI p lvs e) fun r l'=>r < l'.length∧Pw l' fun L => ∀ β env,Agr p lvs β env→ev L β r = !(AQU env e == 0):=by
 refine(YF hp e he l v).bnd ?_;rintro w l1 v1 x1 ⟨⟨h1,h1'⟩,e1⟩;refine(QA w l1 0 v1 h1' v1.p0).mono fun r l2 v2 x2 q=>⟨q.1,fun L vL xL β env hA => ?_⟩
 rw[q.2 L vL xL β,e1 L vL (x2.trans xL) β env hA,UA,qF]
def zW:Wrd:=jJ 16 0
theorem ud109:Tryz.prog.underlying 109=some (.slice 74):=by kernel_rfl
theorem A46:OD Tryz.prog 74=some 128:=by kernel_rfl
theorem A1K (h:Hp)(n:Nat)(hn:n≤1048576):IV Tryz.prog true h 109 (.int .i64 (n:Int)) (.int .i64 (n:Int))=some (.own h.length 0 n,h++[.live 16 ((jJ n zW).map cW)]):=by
 have hz:NW Tryz.prog 74=some (cW zW):=by kernel_rfl
 have hr:room n 128:=OT (by omega) (by omega);unfold IV;simp only[ud109,sz74,A46,hz,qV];rw[if_pos ⟨by omega,Int.le_refl _,hr,by kernel_rfl⟩];simp
theorem isR.st {H:Hp}{b:Nat}{ws:List Wrd}(h:isR H b ws){j:Nat}(hj:j < ws.length)(hw:ws[j].length=16){w:Wrd}(hw':w.length=16):FD Tryz.prog H 74 (.ptr b j 0) (wA w)=some (H.set b (.live 16 ((ws.set j w).map cW))):=by
 have hr:(ws.map cW)[j]? = some (cW ws[j]):=by rw[zL,jX hj]; rfl
 rw[show wA w = .agg (cW w) from rfl,GU (cs:=cW w) (SL (AHN w)) (by rw[NJ,hw']; exact sz74) h hr (by rw[NJ,NJ]; omega)];unfold splice;rw[NJ,hw',List.take_zero,zF (by rw[NJ]; omega),List.map_set];simp
theorem AIZ (G:Nat→AV){bb:Nat}{rest:List AV}{H:Hp}{l:Dg}(s:PS bb rest l H){x y:Wrd}{c tb cb:Nat}(hx:x.length=16)(hy:y.length=16)(ox:LOk l x)(oy:LOk l y)(oc:c < l.length)(nt:tb≠bb)(nc:cb≠bb)(ht:H[tb]? = some (.live 1 [[.ptr bb 0 0]]))(hc:H[cb]? = some (.live 1 [[iA c]])) :
  Ct G bb rest 82 [wA x,wA y,.fn (.func 83) [] [.ptr tb 0 0,.ptr cb 0 0]] H l (pr2 (oCh c) x y) wA:=by
 refine TS G s x y hx hy ox oy _ (oCh c) (fun l' f g r l'' v x' hf hg e=>apX v (x'.lt oc) hf hg e) fun l' H' f g s' x' k' hf hg base Bad hk hb => ?_
 have ht':=k'.keep _ _ ht nt;have hc':=k'.keep _ _ hc nc;show ACalls _ 83 [iA f,iA g,.ptr tb 0 0,.ptr cb 0 0] H' _;refine acN Tryz.func83 rfl ?_;show awp _ _ _ _ _ (EK _ [.tmp 6] _);have l1:DF Tryz.prog H' 68 (.ptr tb 0 0)=some (.ptr bb 0 0):=by rw[DJ AXA ht' rfl]; rfl
 have l2:DF Tryz.prog H' 3 (.ptr cb 0 0)=some (iA c):=by rw[DJ ag3 hc' rfl]; rfl
 simp -implicitDefEqProofs only[vQ,BD,↓reduceIte,jA,enP,l1,l2];refine(ATX G s' c f g (x'.lt oc) hf hg).use (k:=fun r=>ret r) (TOT:=oCh c f g l') (J5 _ _) hb hk ?_;intro a l1 H1 ea hS s1 k1;simp -implicitDefEqProofs only[vQ,BD,↓reduceIte];exact⟨a,l1,ea,rfl,s1,k1⟩
theorem A25 (h:Hp)(b:Nat):MC h (.ptr b 0 0)=some (.ptr h.length 0 0,h++[.live 1 [[.ptr b 0 0]]]):=rfl
section
variable (G:Nat→AV) {bb:Nat} {rest:List AV} {p:Pr} {lvs:List Int} {lm:SM} {mb:Nat}
theorem al3 (h:Hp):JY Tryz.prog h 3=some (.ptr h.length 0 0,h++[.live 1 [[.int .i64 0]]]):=JL (row := [.int .i64 0]) (by kernel_rfl)
set_option maxHeartbeats 8000000 in
theorem word_prog (hP:Pk p lvs lm mb rest)(hmbb:mb≠bb)(e:Ex):EOk p e→(pre e).length≤1048576→∀ {H:Hp} {l:Dg},PS bb rest l H→H[mb]? = some (.map (nmR p.vars 0))→Ct G bb rest 41 [.ptr bb 0 0,.agg (D8 e)] H l (ABQ p lvs e) wA:=by
 induction e using Ex.induct with | h e ih => ?_
 intro he hlen H l s hmb base Bad hk hb;have hwv:=YF (p:=p) (lvs:=lvs) hP.ok e he l s.v;generalize hT:ABQ p lvs e l=TOT at hb;have hWS : ∀ r l',TOT=some (r,l')→r.length=16:=fun r l' q=>(hwv r l' (by rw[hT]; exact q)).2.2.2.1.1
 rw[AGE] at hT;have hpl:=congrArg wH (pre_eq e);rw[zY] at hpl;have hal:e.args.length≤1048576:=by have:=U5 e.args; omega
 refine acN Tryz.func41 rfl ?_;show awp _ _ _ _ _ (EK _ [.cell 4 74] _);have sl:=s.lt;have ml:=CB hmb;simp -implicitDefEqProofs only[vQ,BD,↓reduceIte,jA,enP,MS,A25,bxE,UH];generalize hX:H++[ABlk.live 1 [[.ptr bb 0 0]]]++[ABlk.live 4 [D8 e]]++[ABlk.live 16 [cW (jJ 16 0)]]=X;have hxe:ext H X:=by rw[← hX]; exact(((ext.rfl' H).app _).app _).app _
 have q2:X[H.length]? = some (.live 1 [[.ptr bb 0 0]]):=by rw[← hX]; exact BR (BR (CU _ _))
 have q3:X[H.length+1]? = some (.live 4 [D8 e]):=by rw[← hX]; exact BR (IG (by simp))
 have q4:isW X (H.length+2) zW:=by rw[← hX]; exact IG (by simp)
 have sX:=s.ext hxe;have kX:=Kb.ofExt (bb:=bb) hxe;have e1:(H++[ABlk.live 1 [[.ptr bb 0 0]]]).length=H.length+1:=by simp
 have e2:(H++[ABlk.live 1 [[.ptr bb 0 0]]]++[ABlk.live 4 [D8 e]]).length=H.length+2:=by simp
 have e3:X.length=H.length+3:=by rw[← hX]; simp
 rw[e1,e2];clear hX hxe;have l3 : ∀ {H':Hp},H'[H.length+1]? = some (.live 4 [D8 e])→DF Tryz.prog H' 23 (.ptr (H.length+1) 0 3)=some (.sl e.m 4 (e.args.map D8)):=fun q=>by rw[DJ VQ q (row:=D8 e) rfl,VJ]
 have q3' : ∀ x:ABlk,(X++[x])[H.length+1]? = some (.live 4 [D8 e]):=fun x=>BR q3
 simp -implicitDefEqProofs only[vQ,BD,JP,↓reduceIte,jA,enP,UU,MS,l3 q3,jR,A1K X e.args.length hal,e3];have qa:isR (X++[ABlk.live 16 ((jJ e.args.length zW).map cW)]) (H.length+3) (jJ e.args.length zW):=IG e3;have q2:(X++[ABlk.live 16 ((jJ e.args.length zW).map cW)])[H.length]? = some (.live 1 [[.ptr bb 0 0]]):=BR q2;have q3:(X++[ABlk.live 16 ((jJ e.args.length zW).map cW)])[H.length+1]? = some (.live 4 [D8 e]):=BR q3;have q4:isW (X++[ABlk.live 16 ((jJ e.args.length zW).map cW)]) (H.length+2) zW:=BR q4;have sX:=sX.app (ABlk.live 16 ((jJ e.args.length zW).map cW));have kX:=kX.app (ABlk.live 16 ((jJ e.args.length zW).map cW));have hl4:H.length+3 < (X++[ABlk.live 16 ((jJ e.args.length zW).map cW)]).length:=by simp; omega
 generalize X++[ABlk.live 16 ((jJ e.args.length zW).map cW)]=X at qa q2 q3 q4 sX kX hl4 ⊢;clear q3' e3;simp -implicitDefEqProofs only[vQ,BD,↓reduceIte,enP,UU,l3 q3,jR]
 let K:List Wrd→M Wrd:=fun ws=>wOp p lvs e.op e.n e.name ws
 refine F8 0 (fun F H' => ∃ ws l',ws.length=e.args.length∧(∀ w∈ws,w.length=16∧LOk l' w)∧K ws l'=TOT∧PS bb rest l' H'∧Kb bb H H'∧H'[H.length]? = some (.live 1 [[.ptr bb 0 0]])∧H'[H.length+1]? = some (.live 4 [D8 e])∧isW H' (H.length+2) zW∧isR H' (H.length+3) ws∧H.length+3 < H'.length ∧
  F 2 = .ptr H.length 0 0∧F 3 = .ptr (H.length+1) 0 0∧F 4 = .ptr (H.length+2) 0 0∧F 5 = .own (H.length+3) 0 e.args.length) (fun _ _=>False) ?_ ?_ (fun _ _ q=>q.elim)
 ·refine DX (fun n F H' => ∃ j ws l',n+j=e.args.length∧ws.length=j∧(∀ w∈ws,w.length=16∧LOk l' w)∧((RU p lvs (e.args.drop j)).bnd fun r=>K (ws++r)) l'=TOT∧PS bb rest l' H'∧Kb bb H H'∧H'[H.length]? = some (.live 1 [[.ptr bb 0 0]])∧H'[H.length+1]? = some (.live 4 [D8 e])∧isW H' (H.length+2) zW∧isR H' (H.length+3) (ws++jJ (e.args.length - j) zW)∧H.length+3 < H'.length ∧
   F 2 = .ptr H.length 0 0∧F 3 = .ptr (H.length+1) 0 0∧F 4 = .ptr (H.length+2) 0 0∧F 5 = .own (H.length+3) 0 e.args.length∧F 14 = .sl e.m 4 (e.args.map D8)∧F 15 = .int .i64 (e.args.length:Nat)∧F 16 = .int .i64 (j:Nat)) e.args.length
   ⟨0,[],l,by omega,rfl,fun _ q=>(by cases q),hT,sX,kX,q2,q3,q4,qa,hl4,by simp -implicitDefEqProofs only[AA,↓reduceIte,jA],by simp -implicitDefEqProofs only[AA,↓reduceIte,jA],by simp -implicitDefEqProofs only[AA,↓reduceIte,jA],by simp -implicitDefEqProofs only[AA,↓reduceIte,jA],by simp -implicitDefEqProofs only[AA,↓reduceIte,jA],by simp -implicitDefEqProofs only[AA,↓reduceIte,jA],by simp -implicitDefEqProofs only[AA,↓reduceIte]; rfl⟩ ?_
  clear q2 q3 q4 qa sX kX hl4;rintro n F H0 ⟨j,ws,l',hn,hwl,hw,hS,s',k',q2,q3,q4,qa,hl4,f2,f3,f4,f5,f14,f15,f16⟩;have ec:decide (((j:Nat):Int) < (e.args.length:Nat))=decide (j < e.args.length):=by rw[decide_eq_decide]; omega
  simp -implicitDefEqProofs only[vQ,BD,↓reduceIte,enP,f15,f16,ec];refine CZ (fun hc => ?_) (fun hc => ?_)
  ·have hj:j < e.args.length:=by simpa using hc
   have hmem:e.args[j]∈e.args:=zC hj;rw[zV hj,WY,GH] at hS;simp -implicitDefEqProofs only[vQ,BD,↓reduceIte,jA,enP,WJ,jM,f14,f16,EW hj,GV VO QB IK hj,AQA,AO1 _ _ _ (show wH [AV.int .i64 0,AV.int .i64 0,AV.str ⟨#[]⟩,AV.sl .nil 0 []]=4 from rfl)];have qe:(H0++[ABlk.live 4 [D8 e.args[j]]])[H0.length]? = some (.live 4 [D8 e.args[j]]):=CU _ _;have q2:(H0++[ABlk.live 4 [D8 e.args[j]]])[H.length]? = some (.live 1 [[.ptr bb 0 0]]):=BR q2;have q3:(H0++[ABlk.live 4 [D8 e.args[j]]])[H.length+1]? = some (.live 4 [D8 e]):=BR q3;have q4:isW (H0++[ABlk.live 4 [D8 e.args[j]]]) (H.length+2) zW:=BR q4;have qa:isR (H0++[ABlk.live 4 [D8 e.args[j]]]) (H.length+3) (ws++jJ (e.args.length - j) zW):=BR qa;have s':=s'.app (ABlk.live 4 [D8 e.args[j]]);have k':=k'.app (ABlk.live 4 [D8 e.args[j]]);have hl4:H.length+3 < (H0++[ABlk.live 4 [D8 e.args[j]]]).length:=by simp; omega
   have l2:DF Tryz.prog (H0++[ABlk.live 4 [D8 e.args[j]]]) 68 (.ptr H.length 0 0)=some (.ptr bb 0 0):=by rw[DJ AXA q2 rfl]; rfl
   simp -implicitDefEqProofs only[vQ,BD,↓reduceIte,jA,enP,f2,f5,l2,J7 qe];generalize H0++[ABlk.live 4 [D8 e.args[j]]]=H1 at qe q2 q3 q4 qa s' k' hl4 l2 ⊢;have hmb':=k'.keep _ _ hmb hmbb;refine(ih e.args[j] hmem (he.arg hmem) (by have:=PX hmem; omega) s' hmb').use hS hb (hk.trans k') ?_;intro w l1 H2 ew hS s2 k2;obtain⟨v1,x1,_,⟨w16,ow⟩,_⟩:=YF (p:=p) (lvs:=lvs) hP.ok _ (he.arg hmem) l' s'.v w l1 ew;rw[GH] at hS
   have hS:((RU p lvs (e.args.drop (j+1))).bnd fun r=>K ((ws++[w])++r)) l1=TOT:=by
    rw[← hS];refine congrFun (congrArg (M.bnd _) (funext fun r => ?_)) l1;show K ((ws++[w])++r)=K (ws++(w :: r));rw[zJ]; rfl
   have q2:=k2.keep _ _ q2 (by omega);have q3:=k2.keep _ _ q3 (by omega);have q4:=k2.keep _ _ q4 (by omega);have qa:=k2.row qa (by omega);have kl:=k2.len;have hrow:ws++jJ (e.args.length - j) zW=ws++zW :: jJ (e.args.length - (j+1)) zW:=by rw[show e.args.length - j=(e.args.length - (j+1))+1 by omega,List.replicate_succ]
   rw[hrow] at qa
   have hz:(ws++zW :: jJ (e.args.length - (j+1)) zW)[j]'(by simp [hwl])=zW:=by
    rw[List.getElem_append_right (by omega)]; simp [hwl]
   have hst:=qa.st (j:=j) (by simp [hwl]) (by rw[hz]; rfl) w16
   have hset:(ws++zW :: jJ (e.args.length - (j+1)) zW).set j w=(ws++[w])++jJ (e.args.length - (j+1)) zW:=by
    subst hwl;rw[List.set_append_right _ _ (jQ _),Nat.sub_self]; simp
   rw[hset] at hst;have i0:=qa.ix (o:=0) (n:=e.args.length) (kk := .i64) hj;rw[jG] at i0;simp -implicitDefEqProofs only[vQ,BD,↓reduceIte,jA,enP,UK,jM,i0,hst,f16,wrap_succ (show j < 9223372036854775807 by omega)];have ne : ∀ {c:Nat} {y B':ABlk},H2[c]? = some y→c≠H.length+3→(H2.set (H.length+3) B')[c]? = some y:=fun q hne=>by rw[jU (Ne.symm hne)]; exact q
   refine⟨n - 1,by omega,j+1,ws++[w],l1,by omega,by simp [hwl],fun a ha => ?_,hS,s2.set (by omega) _,(k'.trans k2).setN (by omega) _,ne q2 (by omega),ne q3 (by omega),ne q4 (by omega),DZ qa,by rw[zZ]; omega,by trivial,by trivial,by trivial,by trivial,by trivial,by trivial,by trivial⟩;rcases List.mem_append.1 ha with q | q
   ·exact⟨(hw a q).1,(hw a q).2.go x1⟩
   ·rw[List.mem_singleton] at q; rw[q]; exact⟨w16,ow⟩
  ·have hj : ¬ j < e.args.length:=by simpa using hc
   have hj:j=e.args.length:=by omega
   subst hj;rw[zF (jQ _),Z9] at hS;have hS:K (ws++[]) l'=TOT:=hS;rw[jD] at hS;rw[Nat.sub_self,List.replicate_zero,jD] at qa;simp -implicitDefEqProofs only[vQ,↓reduceIte,jA];exact⟨ws,l',hwl,hw,hS,s',k',q2,q3,q4,qa,hl4,f2,f3,f4,f5⟩
 ·clear q2 q3 q4 qa sX kX hl4
  rintro F H0 ⟨ws,l0,hwl,hw,hS,s',k',q2,q3,q4,qa,hl4,f2,f3,f4,f5⟩;have ld0 : ∀ {H':Hp},H'[H.length+1]? = some (.live 4 [D8 e])→DF Tryz.prog H' 3 (.ptr (H.length+1) 0 0)=some (.int .i64 e.op):=fun q=>by rw[DJ ag3 q (row:=D8 e) rfl,J4]
  have ld1 : ∀ {H':Hp},H'[H.length+1]? = some (.live 4 [D8 e])→DF Tryz.prog H' 3 (.ptr (H.length+1) 0 1)=some (.int .i64 e.n):=fun q=>by rw[DJ ag3 q (row:=D8 e) rfl,ZM]
  have ld2 : ∀ {H':Hp},H'[H.length+1]? = some (.live 4 [D8 e])→DF Tryz.prog H' 9 (.ptr (H.length+1) 0 2)=some (.str e.name):=fun q=>by rw[DJ ag9 q (row:=D8 e) rfl,O9]
  have lb : ∀ {H':Hp},H'[H.length]? = some (.live 1 [[.ptr bb 0 0]])→DF Tryz.prog H' 68 (.ptr H.length 0 0)=some (.ptr bb 0 0):=fun q=>by rw[DJ AXA q rfl]; rfl
  obtain⟨o1,_,oo⟩:=AC5 he.self.nd;have hr:=AC4 he.self.nd;obtain⟨n3,n24⟩:=he.self.na;have hmb':=k'.keep _ _ hmb hmbb;have gi : ∀ k,k < ws.length→ws[k]? = some (ws.getD k []):=fun k hk=>by rw[zM,jX hk]; rfl
  have gd : ∀ k,k < ws.length→(ws.getD k []).length=16∧LOk l0 (ws.getD k []):=fun k hk=>by
   rw[zM,jX hk]; exact hw _ (zC hk)
  have fin : ∀ (F':Fr) (H1:Hp) (r:Wrd) (l1:Dg),F' 4 = .ptr (H.length+2) 0 0→ret r l1=TOT→PS bb rest l1 H1→Kb bb H H1→isW H1 (H.length+2) zW →
    ∃ H2,FD Tryz.prog H1 74 (.ptr (H.length+2) 0 0) (wA r)=some H2∧EK Tryz.prog [.cell 4 74] (fun v H' => ∃ a l',TOT=some (a,l')∧v=wA a∧PS bb rest l' H'∧Kb bb H H') .ret F' H2:=by
   intro F' H1 r l1 hF hS s1 k1 q4;have hr:=hWS r l1 hS.symm;obtain⟨f1,f2,f3,f4⟩:=SI hr s1 k1 (c:=H.length+2) (by omega) (by omega) (by rfl) q4;refine⟨_,f1,?_⟩;rw[IY _ _ _ _ _ _ _ _ _ hF,IE f2 hr];exact⟨_,rfl,r,l1,hS.symm,rfl,f3,f4⟩
  simp -implicitDefEqProofs only[vQ,BD,↓reduceIte,enP,FY,f3,ld0 q3];by_cases h1:e.op=1
  ·have c1:(e.op == 1)=true:=by simpa using h1
   obtain⟨z0,z1⟩:=o1 h1;obtain⟨z,hz⟩:=qM z0;have hS:ret (cst z) l0=TOT:=by rw[← hS]; show _=wOp p lvs e.op e.n e.name ws l0; unfold wOp; rw[if_pos h1,hz]; rfl
   have ld1:=ld1 q3;rw[hz] at ld1;simp -implicitDefEqProofs only[vQ,BD,↓reduceIte,jA,enP,AAO,c1,f3,f4,ld1];refine(pcX (OC G z (by omega) H0)).use ?_;obtain⟨H2,st,fe⟩:=fin _ H0 (cst z) l0 (by first | exact f4 | (simp -implicitDefEqProofs only[f4])) hS s' k' q4;simp -implicitDefEqProofs only[vQ,BD,↓reduceIte,jA,enP,jM,f4,st];exact fe
  have c1:(e.op == 1)=false:=by simpa using h1
  by_cases h2:e.op=2
  ·have c2:(e.op == 2)=true:=by simpa using h2
   obtain⟨i,hi⟩:=he.self.vr h2;have hil:=AG5 hi
   have hS:AAC p.vars[i] (lvs.getD i 0) l0=TOT:=by
    rw[← hS]; show _=wOp p lvs e.op e.n e.name ws l0;unfold wOp; rw[if_neg h1,if_pos h2,hi]; simp only[jX hil]
   simp -implicitDefEqProofs only[vQ,BD,↓reduceIte,jA,enP,LD,c1,c2,f2,f3,lb q2,ld2 q3];refine(AEN G s' hP hmb' e.name i hi hil).use (k:=fun r=>ret r) (by rw[J5]; exact hS) hb (hk.trans k') ?_;intro r l1 H1 er hS s1 k1;have q4:=k1.keep _ _ q4 (by omega);obtain⟨H2,st,fe⟩:=fin _ H1 r l1 (by first | exact f4 | (simp -implicitDefEqProofs only[f4])) hS s1 (k'.trans k1) q4;simp -implicitDefEqProofs only[vQ,BD,↓reduceIte,jA,enP,jM,f4,st];exact fe
  have c2:(e.op == 2)=false:=by simpa using h2
  have pos:0 < ws.length:=by
   obtain⟨c22,c23,cx⟩:=oo h1 h2 n3 n24;by_cases q:e.op=22
   ·have:=c22 q; omega
   by_cases q':e.op=23
   ·have:=c23 q'; omega
   ·have:=cx q q'; omega
  obtain⟨w0,o0⟩:=gd 0 pos;have ix0 : ∀ {H':Hp},isR H' (H.length+3) ws→KF 16 H' (.own (H.length+3) 0 e.args.length) (.int .i64 0)=some (.ptr (H.length+3) 0 0):=fun q=>q.ix (o:=0) (i:=0) (kk := .i64) (by omega)
  have lw0 : ∀ {H':Hp},isR H' (H.length+3) ws→DF Tryz.prog H' 74 (.ptr (H.length+3) 0 0)=some (wA (ws.getD 0 [])):=fun q=>q.ld (gi 0 pos) w0
  have hS:wOp p lvs e.op e.n e.name ws l0=TOT:=hS;unfold wOp at hS;rw[if_neg h1,if_neg h2] at hS;by_cases h4:e.op=4
  ·have c4:(e.op == 4)=true:=by simpa using h4
   rw[if_pos h4] at hS;simp -implicitDefEqProofs only[vQ,BD,↓reduceIte,jA,enP,c1,c2,c4];refine ES (.ones [1,2,3,4] (.alt 0 (.alt 5 (.alt 6 (.ones [7,8] .done) .non) .non) (.alt 5 (.ones [0] (.alt 6 (.ones [7,8] .done) .non)) .non))) (by kernel_rfl) ?_;simp only[DN,IA,jT,jS];simp -implicitDefEqProofs only[vQ,↓reduceIte,jA,jO,enP,UK,jM,f2,f4,f5,lb q2,ix0 qa,lw0 qa];refine⟨⟨?_,trivial⟩,?_,trivial⟩
   ·refine(N8 G s' _ w0 o0).use hS hb (hk.trans k') ?_
    intro t l1 H1 et hS s1 k1;obtain⟨x1,p1⟩:=AE7 s'.v o0 s'.v.p0 et;have k1':=k'.trans k1;have q2:=k1.keep _ _ q2 (by omega);have q4:=k1.keep _ _ q4 (by omega);simp -implicitDefEqProofs only[vQ,↓reduceIte,jA,f2,lb q2];refine⟨(LP G s1 t p1).use hS hb (hk.trans k1') ?_,trivial⟩;intro r l2 H2 er hS s2 k2;have q4:=k2.keep _ _ q4 (by omega);simp -implicitDefEqProofs only[vQ,↓reduceIte,jA];refine⟨_,pcX (J3 G r H2),?_⟩;obtain⟨H3,st,fe⟩:=fin _ H2 (sgl r) l2 (by first | exact f4 | (simp -implicitDefEqProofs only[f4])) hS s2 (k1'.trans k2) q4;simp -implicitDefEqProofs only[vQ,f4,st];exact fe
   ·refine(N8 G s' _ w0 o0).use hS hb (hk.trans k') ?_
    intro t l1 H1 et hS s1 k1;obtain⟨x1,p1⟩:=AE7 s'.v o0 s'.v.p0 et;have k1':=k'.trans k1;have q2:=k1.keep _ _ q2 (by omega);have q4:=k1.keep _ _ q4 (by omega);simp -implicitDefEqProofs only[vQ,↓reduceIte,jA,f2,lb q2];refine⟨(LP G s1 t p1).use hS hb (hk.trans k1') ?_,trivial⟩;intro r l2 H2 er hS s2 k2;have q4:=k2.keep _ _ q4 (by omega);simp -implicitDefEqProofs only[vQ,↓reduceIte,jA];refine⟨_,pcX (J3 G r H2),?_⟩;obtain⟨H3,st,fe⟩:=fin _ H2 (sgl r) l2 (by first | exact f4 | (simp -implicitDefEqProofs only[f4])) hS s2 (k1'.trans k2) q4;simp -implicitDefEqProofs only[vQ,f4,st];exact fe
  have c4:(e.op == 4)=false:=by simpa using h4
  rw[if_neg h4] at hS;by_cases h5:e.op=5
  ·have c5:(e.op == 5)=true:=by simpa using h5
   rw[if_pos h5] at hS;simp -implicitDefEqProofs only[vQ,BD,↓reduceIte,jA,enP,c1,c2,c4,c5];refine ES (.ones [0,1,2,3] (.alt 4 (.ones [5] .done) .non)) (by kernel_rfl) ?_;simp only[DN,IA,jT,jS];simp -implicitDefEqProofs only[vQ,↓reduceIte,jA,jO,enP,UK,jM,f2,f4,f5,lb q2,ix0 qa,lw0 qa];refine⟨(XR G s' _ w0 o0).use (k:=fun r=>ret r) (by rw[J5]; exact hS) hb (hk.trans k') ?_,trivial⟩;intro r l1 H1 er hS s1 k1;have q4:=k1.keep _ _ q4 (by omega);obtain⟨H2,st,fe⟩:=fin _ H1 r l1 (by first | exact f4 | (simp -implicitDefEqProofs only[f4])) hS s1 (k'.trans k1) q4;simp -implicitDefEqProofs only[vQ,↓reduceIte,jA,f4,st];exact fe
  have c5:(e.op == 5)=false:=by simpa using h5
  rw[if_neg h5] at hS;by_cases h6:e.op=6
  ·have c6:(e.op == 6)=true:=by simpa using h6
   rw[if_pos h6] at hS;simp -implicitDefEqProofs only[vQ,BD,↓reduceIte,jA,enP,c1,c2,c4,c5,c6];refine ES (.ones [1,0,2,3,4] (.alt 5 (.ones [6] .done) .non)) (by kernel_rfl) ?_;simp only[DN,IA,jT,jS];simp -implicitDefEqProofs only[vQ,↓reduceIte,jA,jO,enP,UK,jM,f2,f4,f5,lb q2,ix0 qa,lw0 qa];refine⟨_,pcX (OC G 0 (by omega) H0),?_⟩
   try simp -implicitDefEqProofs only[vQ,f2,f4,f5,lb q2,ix0 qa,lw0 qa]
   refine⟨(AJO G s' _ _ (G8 0) w0 (LOk.cst s'.v 0) o0).use (k:=fun r=>ret r) (by rw[J5]; exact hS) hb (hk.trans k') ?_,trivial⟩;intro r l1 H1 er hS s1 k1;have q4:=k1.keep _ _ q4 (by omega);obtain⟨H2,st,fe⟩:=fin _ H1 r l1 (by first | exact f4 | (simp -implicitDefEqProofs only[f4])) hS s1 (k'.trans k1) q4;simp -implicitDefEqProofs only[vQ,↓reduceIte,jA,f4,st];exact fe
  have c6:(e.op == 6)=false:=by simpa using h6
  rw[if_neg h6] at hS;by_cases h25:e.op=25
  ·have c25:(e.op == 25)=true:=by simpa using h25
   rw[if_pos h25] at hS;simp -implicitDefEqProofs only[vQ,BD,↓reduceIte,jA,enP,c1,c2,c4,c5,c6,c25];refine ES (.ones [0,1,2,3] (.alt 4 (.ones [5] .done) .non)) (by kernel_rfl) ?_;simp only[DN,IA,jT,jS];simp -implicitDefEqProofs only[vQ,↓reduceIte,jA,jO,enP,UK,jM,f2,f4,f5,lb q2,ix0 qa,lw0 qa];refine⟨(APE G s' _ w0 o0).use (k:=fun r=>ret r) (by rw[J5]; exact hS) hb (hk.trans k') ?_,trivial⟩;intro r l1 H1 er hS s1 k1;have q4:=k1.keep _ _ q4 (by omega);obtain⟨H2,st,fe⟩:=fin _ H1 r l1 (by first | exact f4 | (simp -implicitDefEqProofs only[f4])) hS s1 (k'.trans k1) q4;simp -implicitDefEqProofs only[vQ,↓reduceIte,jA,f4,st];exact fe
  have c25:(e.op == 25)=false:=by simpa using h25
  rw[if_neg h25] at hS;by_cases h23:e.op=23
  ·have c23:(e.op == 23)=true:=by simpa using h23
   rw[if_pos h23] at hS
   have hsl:MB Tryz.prog H0 109 (.own (H.length+3) 0 e.args.length) (some (.int .i64 1)) none none=some (.own (H.length+3) 1 (ws.length - 1)):=by
    rw[hwl];unfold MB;simp only[ud109,qa,KH,sz74];rw[if_pos (show(0:Int)≤1 by decide)];simp only[show Int.toNat 1=1 from rfl];rw[if_pos ⟨trivial,by omega,jQ _⟩,jG]
   simp -implicitDefEqProofs only[vQ,BD,↓reduceIte,jA,enP,c1,c2,c4,c5,c6,c25,c23];refine ES (.ones [0,1,2,3,4,5] (.alt 6 (.ones [7,8] .done) .non)) (by kernel_rfl) ?_;simp only[DN,IA,jT,jS];simp -implicitDefEqProofs only[vQ,qU,wB,YA,OO,↓reduceIte,jA,jO,enP,UK,jM,f2,f4,f5,lb q2,ix0 qa,lw0 qa,hsl];refine⟨(AI7 G s' _ w0 o0 (H.length+3) (by omega) ws qa 1 (fun w q=>hw w (List.mem_of_mem_drop q)) (by omega)).use hS hb (hk.trans k') ?_,trivial⟩;intro r l2 H2 er hS s2 k2;have q4:=k2.keep _ _ q4 (by omega);simp -implicitDefEqProofs only[vQ,↓reduceIte,jA];refine⟨_,pcX (J3 G r H2),?_⟩;obtain⟨H3,st,fe⟩:=fin _ H2 (sgl r) l2 (by first | exact f4 | (simp -implicitDefEqProofs only[f4])) hS s2 (k'.trans k2) q4;simp -implicitDefEqProofs only[vQ,f4,st];exact fe
  have c23:(e.op == 23)=false:=by simpa using h23
  rw[if_neg h23] at hS;by_cases h22:e.op=22
  ·have c22:(e.op == 22)=true:=by simpa using h22
   rw[if_pos h22] at hS;have l3:=(oo h1 h2 n3 n24).1 h22;obtain⟨w1,ow1⟩:=gd 1 (by omega);obtain⟨w2,ow2⟩:=gd 2 (by omega);have ix1 : ∀ {H':Hp},isR H' (H.length+3) ws→KF 16 H' (.own (H.length+3) 0 e.args.length) (.int .i64 1)=some (.ptr (H.length+3) 1 0):=fun q=>by have:=q.ix (o:=0) (n:=e.args.length) (i:=1) (kk := .i64) (by omega); rw[jG] at this; exact this
   have ix2 : ∀ {H':Hp},isR H' (H.length+3) ws→KF 16 H' (.own (H.length+3) 0 e.args.length) (.int .i64 2)=some (.ptr (H.length+3) 2 0):=fun q=>by have:=q.ix (o:=0) (n:=e.args.length) (i:=2) (kk := .i64) (by omega); rw[jG] at this; exact this
   have lw1 : ∀ {H':Hp},isR H' (H.length+3) ws→DF Tryz.prog H' 74 (.ptr (H.length+3) 1 0)=some (wA (ws.getD 1 [])):=fun q=>q.ld (gi 1 (by omega)) w1
   have lw2 : ∀ {H':Hp},isR H' (H.length+3) ws→DF Tryz.prog H' 74 (.ptr (H.length+3) 2 0)=some (wA (ws.getD 2 [])):=fun q=>q.ld (gi 2 (by omega)) w2
   simp -implicitDefEqProofs only[vQ,BD,↓reduceIte,jA,enP,c1,c2,c4,c5,c6,c25,c23,c22];refine ES (.ones [0,1,2,3] (.alt 4 (.ones [5,6] .done) (.alt 5 (.alt 4 (.ones [6] .done) .non) .non))) (by kernel_rfl) ?_;simp only[DN,IA,jT,jS];simp -implicitDefEqProofs only[vQ,AUP,↓reduceIte,jA,jO,enP,UK,jM,f2,f4,f5,lb q2,ix0 qa,lw0 qa,al3];refine⟨?_,⟨?_,trivial⟩,trivial⟩
   ·refine(N8 G s' _ w0 o0).use hS hb (hk.trans k') ?_
    intro c l1 H1 et hS s1 k1;obtain⟨x1,p1⟩:=AE7 s'.v o0 s'.v.p0 et;have k1':=k'.trans k1;have q2:=k1.keep _ _ q2 (by omega);have q4:=k1.keep _ _ q4 (by omega);have qa:=k1.row qa (by omega);have kl:=k1.len
    have st3:FD Tryz.prog (H1++[ABlk.live 1 [[.int .i64 0]]]) 3 (.ptr H1.length 0 0) (iA c)=some (H1++[ABlk.live 1 [[iA c]]]):=by
     rw[GU (cs := [iA c]) rfl sz3 (CU _ _) rfl (by simp),NY]; rfl
    simp -implicitDefEqProofs only[vQ,↓reduceIte,al3,st3];have qc:(H1++[ABlk.live 1 [[iA c]]])[H1.length]? = some (.live 1 [[iA c]]):=CU _ _;have q2:(H1++[ABlk.live 1 [[iA c]]])[H.length]? = some (.live 1 [[.ptr bb 0 0]]):=BR q2;have q4:isW (H1++[ABlk.live 1 [[iA c]]]) (H.length+2) zW:=BR q4;have qa:isR (H1++[ABlk.live 1 [[iA c]]]) (H.length+3) ws:=BR qa;have s1:=s1.app (ABlk.live 1 [[iA c]]);have k1':=k1'.app (ABlk.live 1 [[iA c]]);have hcb:H1.length≠bb:=by have:=s1.lt; have:=s'.lt; have:=k'.len; omega
    generalize H1++[ABlk.live 1 [[iA c]]]=H2 at q2 q4 qa qc s1 k1' ⊢;generalize H1.length=cb at qc hcb ⊢;refine ES (.ones [0,1,2,3,4,5,6] (.alt 7 (.ones [8] .done) .non)) (by kernel_rfl) ?_;simp only[DN,IA,jT,jS];simp -implicitDefEqProofs only[vQ,ACF,I7,↓reduceIte,jA,jO,enP,UK,jM,f2,f4,f5,ix1 qa,lw1 qa,ix2 qa,lw2 qa];refine⟨(AIZ G s1 (tb:=H.length) (cb:=cb) w1 w2 (ow1.go x1) (ow2.go x1) p1 (by omega) hcb q2 qc).use (k:=fun r=>ret r) (by rw[J5]; exact hS) hb (hk.trans k1') ?_,trivial⟩;intro r l3 H3 er hS s3 k3;have q4:=k3.keep _ _ q4 (by omega);obtain⟨H4,st,fe⟩:=fin _ H3 r l3 (by first | exact f4 | (simp -implicitDefEqProofs only[f4])) hS s3 (k1'.trans k3) q4;simp -implicitDefEqProofs only[vQ,↓reduceIte,jA,f4,st];exact fe
   ·have qc:(H0++[ABlk.live 1 [[AV.int .i64 0]]])[H0.length]? = some (.live 1 [[.int .i64 0]]):=CU _ _
    have q2:(H0++[ABlk.live 1 [[AV.int .i64 0]]])[H.length]? = some (.live 1 [[.ptr bb 0 0]]):=BR q2;have q4:isW (H0++[ABlk.live 1 [[AV.int .i64 0]]]) (H.length+2) zW:=BR q4;have qa:isR (H0++[ABlk.live 1 [[AV.int .i64 0]]]) (H.length+3) ws:=BR qa;have b0:=s'.lt;have hcb:H0.length≠bb:=by omega
    have ha:=CB qa;have hne:H.length+3 < H0.length:=hl4;have s':=s'.app (ABlk.live 1 [[AV.int .i64 0]]);have k':=k'.app (ABlk.live 1 [[AV.int .i64 0]]);refine(N8 G s' _ w0 o0).use hS hb (hk.trans k') ?_;intro c l1 H1 et hS s1 k1;obtain⟨x1,p1⟩:=AE7 s'.v o0 s'.v.p0 et;have k1':=k'.trans k1;have q2:=k1.keep _ _ q2 (by omega);have q4:=k1.keep _ _ q4 (by omega);have qa:=k1.row qa (by omega);have qc:=k1.keep _ _ qc hcb
    have st3:FD Tryz.prog H1 3 (.ptr H0.length 0 0) (iA c)=some (H1.set H0.length (ABlk.live 1 [[iA c]])):=by
     rw[GU (cs := [iA c]) rfl sz3 qc rfl (by simp)]; rfl
    simp -implicitDefEqProofs only[vQ,↓reduceIte,jA,st3];have ne : ∀ {d:Nat} {y B':ABlk},H1[d]? = some y→d≠H0.length→(H1.set H0.length B')[d]? = some y:=fun q hne=>by rw[jU (Ne.symm hne)]; exact q
    have q2:(H1.set H0.length (ABlk.live 1 [[iA c]]))[H.length]? = some (.live 1 [[.ptr bb 0 0]]):=ne q2 (by omega);have q4:isW (H1.set H0.length (ABlk.live 1 [[iA c]])) (H.length+2) zW:=ne q4 (by omega);have qa:isR (H1.set H0.length (ABlk.live 1 [[iA c]])) (H.length+3) ws:=ne qa (by omega);have qc:(H1.set H0.length (ABlk.live 1 [[iA c]]))[H0.length]? = some (.live 1 [[iA c]]):=DZ qc;have s1:=s1.set hcb (ABlk.live 1 [[iA c]]);have k1':=k1'.setN (c:=H0.length) (by omega) (ABlk.live 1 [[iA c]]);generalize H1.set H0.length (ABlk.live 1 [[iA c]])=H2 at q2 q4 qa qc s1 k1' ⊢;generalize H0.length=cb at qc hcb ⊢;refine ES (.ones [0,1,2,3,4,5,6] (.alt 7 (.ones [8] .done) .non)) (by kernel_rfl) ?_;simp only[DN,IA,jT,jS];simp -implicitDefEqProofs only[vQ,ACF,I7,↓reduceIte,jA,jO,enP,UK,jM,f2,f4,f5,ix1 qa,lw1 qa,ix2 qa,lw2 qa];refine⟨(AIZ G s1 (tb:=H.length) (cb:=cb) w1 w2 (ow1.go x1) (ow2.go x1) p1 (by omega) hcb q2 qc).use (k:=fun r=>ret r) (by rw[J5]; exact hS) hb (hk.trans k1') ?_,trivial⟩;intro r l3 H3 er hS s3 k3;have q4:=k3.keep _ _ q4 (by omega);obtain⟨H4,st,fe⟩:=fin _ H3 r l3 (by first | exact f4 | (simp -implicitDefEqProofs only[f4])) hS s3 (k1'.trans k3) q4;simp -implicitDefEqProofs only[vQ,↓reduceIte,jA,f4,st];exact fe
  have c22:(e.op == 22)=false:=by simpa using h22
  rw[if_neg h22] at hS;have l2:=ar2 he.self.nd (by omega);obtain⟨w1,ow1⟩:=gd 1 (by omega);have ix1 : ∀ {H':Hp},isR H' (H.length+3) ws→KF 16 H' (.own (H.length+3) 0 e.args.length) (.int .i64 1)=some (.ptr (H.length+3) 1 0):=fun q=>by have:=q.ix (o:=0) (n:=e.args.length) (i:=1) (kk := .i64) (by omega); rw[jG] at this; exact this
  have lw1 : ∀ {H':Hp},isR H' (H.length+3) ws→DF Tryz.prog H' 74 (.ptr (H.length+3) 1 0)=some (wA (ws.getD 1 [])):=fun q=>q.ld (gi 1 (by omega)) w1
  simp -implicitDefEqProofs only[vQ,BD,↓reduceIte,jA,enP,c1,c2,c4,c5,c6,c25,c23,c22];refine ES (.ones [0,1,2,3,4,5,6,7,8] (.alt 9 (.ones [10] .done) .non)) (by kernel_rfl) ?_;simp only[DN,IA,jT,jS];simp -implicitDefEqProofs only[vQ,↓reduceIte,jA,jO,enP,FY,UK,jM,f2,f3,f4,f5,lb q2,ld0 q3,ix0 qa,lw0 qa,ix1 qa,lw1 qa];refine⟨(AJ1 G s' e.op _ _ w0 w1 o0 ow1).use (k:=fun r=>ret r) (by rw[J5]; exact hS) hb (hk.trans k') ?_,trivial⟩;intro r l1 H1 er hS s1 k1;have q4:=k1.keep _ _ q4 (by omega);obtain⟨H2,st,fe⟩:=fin _ H1 r l1 (by first | exact f4 | (simp -implicitDefEqProofs only[f4])) hS s1 (k'.trans k1) q4;simp -implicitDefEqProofs only[vQ,↓reduceIte,jA,f4,st];exact fe
end
end Go.Proofs.YtgnoolgeijmlaaaGreatDoor.Bl
