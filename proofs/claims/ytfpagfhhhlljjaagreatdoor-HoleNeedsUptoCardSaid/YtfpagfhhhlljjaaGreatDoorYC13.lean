/- Part 13 of the proof (X10, X11, X12, X13, X14, X15, X19, X20, X21, X22, X24, Kz); no condition. -/
import Derived.Test.YtfpagfhhhlljjaaGreatDoorYC12
set_option linter.unusedVariables false
namespace Go.Proofs.YtfpagfhhhlljjaaGreatDoor.Xe
open Sm Bins Cov Wd Go.RowKit
open List renaming getElem?_eq_getElem→jL,getElem?_map→jX,replicate→jY,getElem?_append_right→wO,getElem?_drop→qR,getElem?_append_left→zM,getD_eq_getElem?_getD→jZ,mem_map→zJ,getElem_mem→jO,getElem?_set_ne→zT
def QX (x:List Int):List AV := [.sl (nm x) 1 (x.map qencI)]
def RowsL (rows:List (List AV)) (ls:List (List Int)):Prop:=rows.length=ls.length∧∀ (i:Nat) (r:List AV) (l:List Int),rows[i]? = some r→ls[i]? = some l→∃ s k,r = [.sl s k (l.map qencI)]∧(k=1∨l = [])
def TLs (H:Hp) (v:AV) (ls:List (List Int)):Prop:=ls = []∨(∃ s rows,v = .sl s 1 rows∧RowsL rows ls)∨∃ q rows,v = .own q 0 ls.length∧H[q]? = some (.live 1 rows)∧RowsL rows ls
theorem TLs.ext {h H:Hp} {v:AV} {ls:List (List Int)} (t:TLs h v ls) (hx:Sm.ext h H):TLs H v ls:=by
 rcases t with h1 | h2 | ⟨q,rows,rfl,hq,hr⟩
 ·exact .inl h1
 ·exact .inr (.inl h2)
 ·exact .inr (.inr ⟨q,rows,rfl,E8 hx hq,hr⟩)
theorem TLs.ld {H:Hp} {v:AV} {ls:List (List Int)} (t:TLs H v ls) (i:Nat) (hi:i < ls.length) : ∃ a s k,JG 1 H v (.int .i64 (i:Nat))=some a∧DX Tryz.prog H 26 a=some (.sl s k (ls[i].map qencI))∧(k=1∨ls[i] = []):=by
 have hl:ls[i]? = some ls[i]:=jL hi
 rcases t with rfl | ⟨s,rows,rfl,hlen,hr⟩ | ⟨q,rows,rfl,hq,hlen,hr⟩
 ·simp at hi
 ·have hi':i < rows.length:=by omega
  obtain ⟨s',k,e,hk⟩:=hr i rows[i] ls[i] (jL hi') hl
  have h1:JG 1 H (.sl s 1 (rows.map id)) (.int .i64 (i:Nat))=some (.fptr 1 (rows.map id) i 0):=D7 hi'
  have h2:DX Tryz.prog H 26 (.fptr 1 (rows.map id) i 0)=(id rows[i])[0]? := DZ OA hi'
  rw [List.map_id] at h1 h2
  exact ⟨_,s',k,h1,by rw [h2,e]; rfl,hk⟩
 ·have hi':i < rows.length:=by omega
  obtain ⟨s',k,e,hk⟩:=hr i rows[i] ls[i] (jL hi') hl
  have h1:=I5 (kk := .i64) (off:=0) (len:=ls.length) hq hi
  rw [Nat.zero_add] at h1
  exact ⟨_,s',k,h1,by rw [DJ OA hq (jL hi'),e]; rfl,hk⟩
theorem RowsL.map (ls:List (List Int)):RowsL (ls.map QX) ls:=by
 refine ⟨by simp,fun i r l h1 h2 => ?_⟩
 rw [jX,h2] at h1
 cases h1
 exact ⟨_,1,rfl,.inl rfl⟩
theorem RowsL.encL (ls:List Is):RowsL (ls.map encL) (ls.map (·.l)):=by
 refine ⟨by simp,fun i r l h1 h2 => ?_⟩
 rw [jX] at h1 h2
 cases hx:ls[i]? with
 | none=>rw [hx] at h1; cases h1
 | some x=>rw [hx] at h1 h2; cases h1; cases h2; exact ⟨_,1,rfl,.inl rfl⟩
theorem RowsL.nils (n:Nat):RowsL (jY n G7) (jY n []):=by
 refine ⟨by simp,fun i r l h1 h2 => ?_⟩
 rw [List.getElem?_replicate] at h1 h2
 split at h1
 ·rename_i hi
  rw [if_pos hi] at h2
  cases h1; cases h2
  exact ⟨_,0,rfl,.inr rfl⟩
 ·cases h1
def mix {α:Type} (ys xs:List α) (i:Nat):List α:=ys.take i ++ xs.drop i
theorem AGS {α:Type} {ys xs:List α} {i:Nat} (h:ys.length=xs.length) (hi:i≤xs.length):(mix ys xs i).length=xs.length:=by simp [mix]; omega
theorem XQ {α:Type} {ys xs:List α} (h:ys.length=xs.length):mix ys xs xs.length=ys:=by unfold mix; rw [List.drop_length,List.append_nil,List.take_of_length_le (by omega)]
theorem AGT {α:Type} {ys xs:List α} {i j:Nat} (h:ys.length=xs.length) (hij:i≤j) (hj:j < xs.length):(mix ys xs i)[j]? = some xs[j]:=by
 unfold mix
 have hl:(ys.take i).length=i:=by simp; omega
 rw [wO (by omega),hl,qR,show i+(j - i)=j by omega,jL hj]
theorem ACD {α:Type} {ys xs:List α} {i j:Nat} (h:ys.length=xs.length) (hij:i≤j) (hj:j < xs.length) (hj':j < (mix ys xs i).length):(mix ys xs i)[j]=xs[j]:=by
 have:=AGT h hij hj
 rw [jL hj'] at this; exact Option.some.inj this
theorem XP {α:Type} {ys xs:List α} {i:Nat} (h:ys.length=xs.length) (hi:i < xs.length) (hy:i < ys.length):(mix ys xs i).set i ys[i]=mix ys xs (i+1):=by
 refine List.ext_getElem? fun j => ?_
 have hl:(ys.take i).length=i:=by simp; omega
 have hl':(ys.take (i+1)).length=i+1:=by simp; omega
 rw [List.getElem?_set]
 unfold mix
 rcases Nat.lt_trichotomy i j with h1 | h1 | h1
 ·rw [if_neg (by omega),wO (by omega),wO (by omega),hl,hl',qR,qR]
  congr 1; omega
 ·subst h1
  rw [if_pos rfl,if_pos (by simp; omega),zM (by omega),List.getElem?_take_of_lt (by omega),jL hy]
 ·rw [if_neg (by omega),zM (by omega),zM (by omega),List.getElem?_take_of_lt h1,List.getElem?_take_of_lt (by omega)]
def N8 (m:Mo) (ls:List (List Int)) (env:List Sg):List PtR:=(m.pts.zip ls).map fun p=>ptE p.1 p.2 env
theorem UM (m:Mo) (ls:List (List Int)) (env:List Sg) (h:ls.length=m.pts.length):(N8 m ls env).length=m.pts.length:=by simp [N8,h]
theorem XK (m:Mo) (ls:List (List Int)) (env:List Sg) (i:Nat) (h1:i < m.pts.length) (h2:i < ls.length) (h3:i < (N8 m ls env).length):(N8 m ls env)[i]=ptE m.pts[i] ls[i] env:=by simp [N8]
def raiseAt (xs:List Int) (b:Nat):List Int:=xs.set b (rz (xs.getD b 0))
def rowP (hit:List Nat) (xs:List Int):List Int:=hit.foldl raiseAt xs
theorem QU (xs:List Int) (b:Nat):(raiseAt xs b).length=xs.length:=by simp [raiseAt]
theorem QA : ∀ (hit:List Nat) (xs:List Int),(rowP hit xs).length=xs.length
 | [],_=>rfl
 | b :: hit,xs=>by
   have:=QA hit (raiseAt xs b)
   rw [QU] at this; exact this
theorem rowP_step (hit:List Nat) (xs:List Int) (j:Nat) (hj:j < hit.length):rowP (hit.take (j+1)) xs=raiseAt (rowP (hit.take j) xs) hit[j]:=by
 unfold rowP
 rw [List.take_succ_eq_append_getElem hj,List.foldl_append]; rfl
def Wn (xs:List Int):Prop := ∀ x∈xs,0≤x∧x≤1099511627776
theorem APD {n:Int} (h:0≤n∧n≤1099511627776):0≤rz n∧rz n≤1099511627776:=by unfold rz; omega
theorem Wn.getD {xs:List Int} (h:Wn xs) (b:Nat):0≤xs.getD b 0∧xs.getD b 0≤1099511627776:=by
 rw [jZ]
 cases hx:xs[b]? with
 | none=>decide
 | some x=>exact h x (List.mem_of_getElem? hx)
theorem Wn.raiseAt {xs:List Int} (h:Wn xs) (b:Nat):Wn (raiseAt xs b):=by
 intro x hx
 rcases List.mem_or_eq_of_mem_set hx with h1 | h1
 ·exact h x h1
 ·rw [h1]; exact APD (h.getD b)
theorem Wn.rowP : ∀ (hit:List Nat) {xs:List Int},Wn xs→Wn (rowP hit xs)
 | [],_,h=>h
 | b :: hit,_,h=>Wn.rowP hit (h.raiseAt b)
def PQ (rs:List PtR) (P:List (List Int)):List (List Int):=(rs.zip P).map fun p=>rowP p.1.hit p.2
def crK (m:Mo) (x:Cr) (hits:List (List Nat)) (k:Nat):Bool:=VM m x (RF (szs m x.pts) k) && allB x.pts (RF (szs m x.pts) k) hits
def rowC (m:Mo) (x:Cr) (hits:List (List Nat)) (xs:List Int):List Int:=(List.range xs.length).map fun k=>if crK m x hits k=true then rz (xs.getD k 0) else xs.getD k 0
def RY (m:Mo) (hits:List (List Nat)) (C:List (List Int)):List (List Int):=(m.crs.zip C).map fun p=>rowC m p.1 hits p.2
theorem rowC_len (m:Mo) (x:Cr) (hits:List (List Nat)) (xs:List Int):(rowC m x hits xs).length=xs.length:=by simp [rowC]
theorem rowC_get (m:Mo) (x:Cr) (hits:List (List Nat)) (xs:List Int) (k:Nat) (hk:k < xs.length) (hk':k < (rowC m x hits xs).length):(rowC m x hits xs)[k]=if crK m x hits k=true then rz xs[k] else xs[k]:=by
 have e:xs.getD k 0=xs[k]:=by rw [jZ,jL hk]; rfl
 simp only [rowC,List.getElem_map,List.getElem_range,e]
theorem Wn.rowC {m:Mo} {x:Cr} {hits:List (List Nat)} {xs:List Int} (h:Wn xs):Wn (rowC m x hits xs):=by
 intro y hy
 unfold Xe.rowC at hy
 obtain ⟨k,_,rfl⟩:=zJ.1 hy
 split
 ·exact APD (h.getD k)
 ·exact h.getD k
theorem UE (rs:List PtR) (P:List (List Int)) (h:rs.length=P.length):(PQ rs P).length=P.length:=by simp [PQ,h]
theorem UF (rs:List PtR) (P:List (List Int)) (i:Nat) (h1:i < rs.length) (h2:i < P.length) (h3:i < (PQ rs P).length):(PQ rs P)[i]=rowP rs[i].hit P[i]:=by simp [PQ]
theorem UG (m:Mo) (hits:List (List Nat)) (C:List (List Int)) (h:C.length=m.crs.length):(RY m hits C).length=C.length:=by simp [RY,h]
theorem UH (m:Mo) (hits:List (List Nat)) (C:List (List Int)) (i:Nat) (h1:i < m.crs.length) (h2:i < C.length) (h3:i < (RY m hits C).length):(RY m hits C)[i]=rowC m m.crs[i] hits C[i]:=by simp [RY]
theorem AYC {rs:List PtR} {P:List (List Int)} (h : ∀ xs∈P,Wn xs) : ∀ xs∈PQ rs P,Wn xs:=by
 intro xs hx
 obtain ⟨p,hp,rfl⟩:=zJ.1 hx
 exact Wn.rowP _ (h _ (List.of_mem_zip hp).2)
theorem AYD {m:Mo} {hits:List (List Nat)} {C:List (List Int)} (h : ∀ xs∈C,Wn xs) : ∀ xs∈RY m hits C,Wn xs:=by
 intro xs hx
 obtain ⟨p,hp,rfl⟩:=zJ.1 hx
 exact Wn.rowC (h _ (List.of_mem_zip hp).2)
theorem APO (o:Nat) (P:List (List Int)) (i:Nat) (ys:List Int):nlV o (P.set i ys)=nlV o P:=by
 cases P with
 | nil=>rfl
 | cons x xs =>
   cases i with
   | zero=>rfl
   | succ i=>simp [nlV]
def cvR (po:Nat) (P:List (List Int)) (co:Nat) (C:List (List Int)) (sam ill:Int):List AV := [nlV po P,nlV co C,.int .i64 sam,.int .i64 ill]
structure CS (n0:Nat) (H:Hp) (cb tb po co:Nat) (pb cbs:List Nat) (P C:List (List Int)) (sam ill:Int) (v3:AV):Prop where
 gc:H[cb]? = some (.live 4 [cvR po P co C sam ill])
 gt:H[tb]? = some (.live 1 [[v3]])
 np:NL n0 H po pb P
 nc:NL n0 H co cbs C
 dis : ∀ b∈pb,b ∉ cbs
 xcp:cb ∉ pb
 xcc:cb ∉ cbs
 xtp:tb ∉ pb
 xtc:tb ∉ cbs
 xpo:P≠[]→po ∉ cbs∧cb≠po∧tb≠po
 xco:C≠[]→co ∉ pb∧cb≠co∧tb≠co
 ct:cb≠tb
section
variable {n0:Nat} {H:Hp} {cb tb po co:Nat} {pb cbs:List Nat} {P C:List (List Int)} {sam ill:Int} {v3:AV} (S:CS n0 H cb tb po co pb cbs P C sam ill v3)
include S
theorem CS.keep {H':Hp} (hk : ∀ b x,H[b]? = some x→b < H.length→H'[b]? = some x):CS n0 H' cb tb po co pb cbs P C sam ill v3 :=
 ⟨hk _ _ S.gc (CE S.gc),hk _ _ S.gt (CE S.gt),S.np.keep fun _ _ _ h=>hk _ _ h (CE h),S.nc.keep fun _ _ _ h=>hk _ _ h (CE h),S.dis,S.xcp,S.xcc,S.xtp,S.xtc,S.xpo,S.xco,S.ct⟩
theorem CS.app (x:Hp):CS n0 (H ++ x) cb tb po co pb cbs P C sam ill v3:=S.keep fun _ _ h _=>FQ h
theorem CS.ext {H':Hp} (hx:Sm.ext H H'):CS n0 H' cb tb po co pb cbs P C sam ill v3:=S.keep fun _ _ h _=>E8 hx h
theorem CS.setP {i:Nat} (hi:i < pb.length) (ys:List Int) (hl : ∀ hx:i < P.length,ys.length=P[i].length):CS n0 (H.set pb[i] (.live 1 (ys.map qencI))) cb tb po co pb cbs (P.set i ys) C sam ill v3:=by
 have hm:=jO hi
 have hne : ∀ b,b ∉ pb→pb[i]≠b:=fun b hb e=>hb (by rw [← e]; exact hm)
 have hPne:P.set i ys≠[]→P≠[]:=fun h e=>h (by rw [e]; rfl)
 refine ⟨?_,?_,S.np.set hi ys hl,S.nc.keep fun b x hb hx => ?_,S.dis,S.xcp,S.xcc,S.xtp,S.xtc,fun h=>S.xpo (hPne h),S.xco,S.ct⟩
 ·rw [zT (hne _ S.xcp),S.gc]
  unfold cvR; rw [APO]
 ·rw [zT (hne _ S.xtp)]; exact S.gt
 ·rw [zT]
  ·exact hx
  ·rcases hb with ⟨hC,rfl⟩ | hb
   ·exact hne _ (S.xco hC).1
   ·exact fun e=>S.dis _ hm (by rw [e]; exact hb)
theorem CS.setC {i:Nat} (hi:i < cbs.length) (ys:List Int) (hl : ∀ hx:i < C.length,ys.length=C[i].length):CS n0 (H.set cbs[i] (.live 1 (ys.map qencI))) cb tb po co pb cbs P (C.set i ys) sam ill v3:=by
 have hm:=jO hi
 have hne : ∀ b,b ∉ cbs→cbs[i]≠b:=fun b hb e=>hb (by rw [← e]; exact hm)
 have hCne:C.set i ys≠[]→C≠[]:=fun h e=>h (by rw [e]; rfl)
 refine ⟨?_,?_,S.np.keep fun b x hb hx => ?_,S.nc.set hi ys hl,S.dis,S.xcp,S.xcc,S.xtp,S.xtc,S.xpo,fun h=>S.xco (hCne h),S.ct⟩
 ·rw [zT (hne _ S.xcc),S.gc]
  unfold cvR; rw [APO]
 ·rw [zT (hne _ S.xtc)]; exact S.gt
 ·rw [zT]
  ·exact hx
  ·rcases hb with ⟨hP,rfl⟩ | hb
   ·exact hne _ (S.xpo hP).1
   ·exact fun e=>S.dis _ hb (by rw [← e]; exact hm)
theorem CS.setT (w:AV):CS n0 (H.set tb (.live 1 [[w]])) cb tb po co pb cbs P C sam ill w:=by
 refine ⟨by rw [zT (Ne.symm S.ct)]; exact S.gc,EJ S.gt,S.np.keep fun b x hb hx => ?_,S.nc.keep fun b x hb hx => ?_,S.dis,S.xcp,S.xcc,S.xtp,S.xtc,S.xpo,S.xco,S.ct⟩
 ·rw [zT]
  ·exact hx
  ·rcases hb with ⟨hP,rfl⟩ | hb
   ·exact (S.xpo hP).2.2
   ·exact fun e=>S.xtp (by rw [e]; exact hb)
 ·rw [zT]
  ·exact hx
  ·rcases hb with ⟨hC,rfl⟩ | hb
   ·exact (S.xco hC).2.2
   ·exact fun e=>S.xtc (by rw [e]; exact hb)
theorem CS.setN (sam' ill':Int):CS n0 (H.set cb (.live 4 [cvR po P co C sam' ill'])) cb tb po co pb cbs P C sam' ill' v3:=by
 refine ⟨EJ S.gc,by rw [zT S.ct]; exact S.gt,S.np.keep fun b x hb hx => ?_,S.nc.keep fun b x hb hx => ?_,S.dis,S.xcp,S.xcc,S.xtp,S.xtc,S.xpo,S.xco,S.ct⟩
 ·rw [zT]
  ·exact hx
  ·rcases hb with ⟨hP,rfl⟩ | hb
   ·exact (S.xpo hP).2.1
   ·exact fun e=>S.xcp (by rw [e]; exact hb)
 ·rw [zT]
  ·exact hx
  ·rcases hb with ⟨hC,rfl⟩ | hb
   ·exact (S.xco hC).2.1
   ·exact fun e=>S.xcc (by rw [e]; exact hb)
theorem CS.l0:DX Tryz.prog H 67 (.ptr cb 0 0)=some (nlV po P):=by rw [DJ TR S.gc (row:=cvR po P co C sam ill) rfl]; rfl
theorem CS.l1:DX Tryz.prog H 67 (.ptr cb 0 1)=some (nlV co C):=by rw [DJ TR S.gc (row:=cvR po P co C sam ill) rfl]; rfl
theorem CS.lt0:DX Tryz.prog H 67 (.ptr tb 0 0)=some v3:=by rw [DJ TR S.gt (row := [v3]) rfl]; rfl
end
theorem A4C (n x:Int):splice [.int .i64 n] 0 [.int .i64 x]=qencI x:=rfl
theorem AE7 (xs:List Int) (b:Nat):(xs.map qencI).set b (qencI (rz (xs.getD b 0)))=(raiseAt xs b).map qencI:=by rw [raiseAt,List.map_set]
structure Fr1 (h H:Hp) (cb tb:Nat) (pb cbs:List Nat):Prop where
 le:h.length≤H.length
 get : ∀ b x,h[b]? = some x→b≠cb→b≠tb→b ∉ pb→b ∉ cbs→H[b]? = some x
theorem Fr1.of_ext {h H:Hp} {cb tb:Nat} {pb cbs:List Nat} (hx:ext h H):Fr1 h H cb tb pb cbs:=⟨hx.le,fun _ _ hb _ _ _ _=>E8 hx hb⟩
theorem Fr1.trans {a b c:Hp} {cb tb:Nat} {pb cbs:List Nat} (h1:Fr1 a b cb tb pb cbs) (h2:Fr1 b c cb tb pb cbs):Fr1 a c cb tb pb cbs :=
 ⟨Nat.le_trans h1.le h2.le,fun q x hq e1 e2 e3 e4=>h2.get q x (h1.get q x hq e1 e2 e3 e4) e1 e2 e3 e4⟩
theorem Fr1.set {h H:Hp} {cb tb:Nat} {pb cbs:List Nat} (hf:Fr1 h H cb tb pb cbs) {q:Nat} (hq:q=cb∨q=tb∨q∈pb∨q∈cbs) (y:ABlk):Fr1 h (H.set q y) cb tb pb cbs:=by
 refine ⟨by simpa using hf.le,fun b x hb e1 e2 e3 e4 => ?_⟩
 rw [zT]
 ·exact hf.get b x hb e1 e2 e3 e4
 ·rintro rfl
  rcases hq with q | q | q | q
  ·exact e1 q
  ·exact e2 q
  ·exact e3 q
  ·exact e4 q
end Go.Proofs.YtfpagfhhhlljjaaGreatDoor.Xe
set_option linter.unusedSimpArgs false
set_option maxRecDepth 8000
namespace Go.Proofs.YtfpagfhhhlljjaaGreatDoor.Xe
open Sm Bins Cov Wd Go.RowKit
open Bool renaming not_false→jB,not_true→jV,or_false→jR,and_eq_true→jU
open List renaming replicate→jY,getElem_mem→jO,getElem?_set_ne→zT,getD_eq_getElem?_getD→jZ,getElem?_eq_getElem→jL,contains_nil→jJ,length_map→jI,take_succ_eq_append_getElem→zN,map_cons→jE,map_nil→jD,append_nil→jF,getElem?_cons_zero→zH,getElem?_cons_succ→zL,take_of_length_le→jW,drop_eq_nil_of_le→zG,mem_map→zJ,getElem_of_mem→qH,mem_append→zY,contains_cons→jS,take_zero→qO,length_take→qB,length_append→zZ,getElem?_map→jX
open Nat renaming zero_add→jG,le_of_ble_eq_true→jH,reduceEqDiff→jC,add_zero→jM,reduceAdd→jQ,le_refl→jK,le_trans→qJ,reduceBEq→jP
open Option renaming getD_some→jA,getD_none→jT
theorem A4V (h:Hp) (n:Nat) (hn:n≤1048576):JW Tryz.prog true h 67 (.int .i64 (n:Int)) (.int .i64 (n:Int))=some (.own h.length 0 n,h ++ [ABlk.live 1 (jY n G7)]):=by
 have hz:NE Tryz.prog 26=some G7:=by kernel_rfl
 have hr:room n 24:=IX (by omega) (by omega)
 unfold JW
 simp only [AX1,AIJ,A0H,hz,Int.toNat_natCast]
 rw [if_pos ⟨by omega,Int.le_refl _,hr,rfl⟩]
 simp
theorem AGK (p:Pt) (last:List Int) (l:List Sg) : ∀ x∈(ptE p last l).hit,x < p.bins.length:=by
 intro x hx
 unfold ptE at hx
 split at hx
 ·cases hx
 ·split at hx
  ·cases hx
  ·split at hx
   ·cases hx
   ·split at hx
    ·cases hx
    ·exact ACQ _ _ _ _ _ x hx
theorem AYO (p:Pt) (last:List Int) (l:List Sg):(ptE p last l).hit.length≤p.bins.length:=by
 unfold ptE
 split
 ·simp
 ·split
  ·simp
  ·split
   ·simp
   ·split
    ·simp
    ·exact ZG _ _ _ _ _
theorem A02 (G:Nat→AV) (hG:GOk G) (p:Pt) (hp:PtOk p) (last:List Int) (lm:SM) (k:Nat) (hk:k=1∨last = []) (l:List Sg) (m:SM) (h:Hp) (hll:last.length≤1048576) (hl:l.length≤1099511627776) :
  PCall (En G) 112 [.agg (F9 p),.sl lm k (last.map qencI),.sl m 2 (l.map GI)] h (ptV (ptE p last l)):=by
 rcases hk with rfl | rfl
 ·exact AD6 G hG p hp last lm l m h hll hl
 ·exact PCall.args (AD6 G hG p hp [] lm l m h hll hl) (CvRL.cons (CvR.refl _) (CvRL.cons (CvR.sl (Cv.empty lm k 1)) (CvRL.refl _)))
def A3N (n0:Nat) (h:Hp) (cb tb po co:Nat) (pb cbs:List Nat) (m:Mo) (P C:List (List Int)) (sam ill:Int) (ls:List (List Int)) (env:List Sg) (v:AV) (H:Hp):Prop :=
 (∃ e,e≠0∧L6 PtR.err (N8 m ls env)=e∧v = .int .i64 e∧ext h H) ∨
 (L6 PtR.err (N8 m ls env)=0∧v = .int .i64 0∧∃ lb,h.length≤lb∧H[lb]? = some (.live 1 (((N8 m ls env).map PtR.next).map QX)) ∧
  CS n0 H cb tb po co pb cbs (PQ (N8 m ls env) P) (RY m ((N8 m ls env).map PtR.hit) C) (rz sam) (if (N8 m ls env).any PtR.bad=true then rz ill else ill) (.own lb 0 m.pts.length)∧Fr1 h H cb tb pb cbs)
structure Ph (n0:Nat) (h H:Hp) (cb tb po co:Nat) (pb cbs:List Nat) (m:Mo) (mb hb lb:Nat) (P C:List (List Int)) (sam ill:Int) (hits:List (List Nat)) (nexts:List (List Int)):Prop where
 gm:H[mb]? = some (.live 2 [EE m])
 gh:H[hb]? = some (.live 1 (hits.map QH))
 gl:H[lb]? = some (.live 1 (nexts.map QX))
 cs:CS n0 H cb tb po co pb cbs P C sam ill (.own lb 0 m.pts.length)
 fr:Fr1 h H cb tb pb cbs
 wp : ∀ b∈pb,b < h.length
 wc : ∀ b∈cbs,b < h.length
 em:h.length≤mb
 eh:h.length≤hb
 el:h.length≤lb
section
variable {n0:Nat} {h H:Hp} {cb tb po co:Nat} {pb cbs:List Nat} {m:Mo} {mb hb lb:Nat} {P C:List (List Int)} {sam ill:Int} {hits:List (List Nat)} {nexts:List (List Int)} (S:Ph n0 h H cb tb po co pb cbs m mb hb lb P C sam ill hits nexts)
include S
theorem Ph.app (x:Hp):Ph n0 h (H ++ x) cb tb po co pb cbs m mb hb lb P C sam ill hits nexts :=
 ⟨FQ S.gm,FQ S.gh,FQ S.gl,S.cs.app x,⟨by have:=S.fr.le; simp; omega,fun b y hb e1 e2 e3 e4=>FQ (S.fr.get b y hb e1 e2 e3 e4)⟩,S.wp,S.wc,S.em,S.eh,S.el⟩
theorem Ph.setP {i:Nat} (hi:i < pb.length) (ys:List Int) (hl : ∀ hx:i < P.length,ys.length=P[i].length):Ph n0 h (H.set pb[i] (.live 1 (ys.map qencI))) cb tb po co pb cbs m mb hb lb (P.set i ys) C sam ill hits nexts:=by
 have hm:=jO hi
 have hw:=S.wp _ hm
 have a:=S.em; have b:=S.eh; have c:=S.el
 exact ⟨by rw [zT (by omega)]; exact S.gm,by rw [zT (by omega)]; exact S.gh,by rw [zT (by omega)]; exact S.gl,S.cs.setP hi ys hl,S.fr.set (.inr (.inr (.inl hm))) _,S.wp,S.wc,S.em,S.eh,S.el⟩
theorem Ph.setC {i:Nat} (hi:i < cbs.length) (ys:List Int) (hl : ∀ hx:i < C.length,ys.length=C[i].length):Ph n0 h (H.set cbs[i] (.live 1 (ys.map qencI))) cb tb po co pb cbs m mb hb lb P (C.set i ys) sam ill hits nexts:=by
 have hm:=jO hi
 have hw:=S.wc _ hm
 have a:=S.em; have b:=S.eh; have c:=S.el
 exact ⟨by rw [zT (by omega)]; exact S.gm,by rw [zT (by omega)]; exact S.gh,by rw [zT (by omega)]; exact S.gl,S.cs.setC hi ys hl,S.fr.set (.inr (.inr (.inr hm))) _,S.wp,S.wc,S.em,S.eh,S.el⟩
theorem Ph.raiseP (G:Nat→AV) {i:Nat} (hi:i < P.length) (hip:i < pb.length) (b:Nat) (hb:b < P[i].length) (hw:Wn P[i]) :
  DX Tryz.prog H 67 (.ptr cb 0 0)=some (nlV po P)∧JG 1 H (nlV po P) (.int .i64 (i:Nat))=some (.ptr po i 0)∧DX Tryz.prog H 26 (.ptr po i 0)=some (.own pb[i] 0 P[i].length) ∧
   JG 1 H (.own pb[i] 0 P[i].length) (.int .i64 (b:Nat))=some (.ptr pb[i] b 0)∧ACalls (En G) 113 [.ptr pb[i] b 0] H fun _ H'=>H'=H.set pb[i] (.live 1 ((raiseAt P[i] b).map qencI)):=by
 have N:=S.cs.np
 have hrow:=N.row i hip hi
 refine ⟨S.cs.l0,N.ix hi,N.ld hi,by have:=I5 (kk := .i64) (off:=0) (len:=P[i].length) hrow hb; rw [jG] at this; exact this,?_⟩
 have hg:P[i].getD b 0=P[i][b]:=by rw [jZ,jL hb]; rfl
 have hin:=hw.getD b
 have hr:(P[i].map qencI)[b]? = some [.int .i64 (P[i].getD b 0)]:=by rw [row_map hb,hg]; rfl
 refine (TD G hrow hr (n:=P[i].getD b 0) rfl (by omega) (by omega)).mono ?_
 rintro _ H' rfl
 rw [A4C,AE7]
theorem Ph.raiseC (G:Nat→AV) {i:Nat} (hi:i < C.length) (hip:i < cbs.length) (b:Nat) (hb:b < C[i].length) (hw:Wn C[i]) :
  DX Tryz.prog H 67 (.ptr cb 0 1)=some (nlV co C)∧JG 1 H (nlV co C) (.int .i64 (i:Nat))=some (.ptr co i 0)∧DX Tryz.prog H 26 (.ptr co i 0)=some (.own cbs[i] 0 C[i].length) ∧
   JG 1 H (.own cbs[i] 0 C[i].length) (.int .i64 (b:Nat))=some (.ptr cbs[i] b 0)∧ACalls (En G) 113 [.ptr cbs[i] b 0] H fun _ H'=>H'=H.set cbs[i] (.live 1 ((raiseAt C[i] b).map qencI)):=by
 have N:=S.cs.nc
 have hrow:=N.row i hip hi
 refine ⟨S.cs.l1,N.ix hi,N.ld hi,by have:=I5 (kk := .i64) (off:=0) (len:=C[i].length) hrow hb; rw [jG] at this; exact this,?_⟩
 have hg:C[i].getD b 0=C[i][b]:=by rw [jZ,jL hb]; rfl
 have hin:=hw.getD b
 have hr:(C[i].map qencI)[b]? = some [.int .i64 (C[i].getD b 0)]:=by rw [row_map hb,hg]; rfl
 refine (TD G hrow hr (n:=C[i].getD b 0) rfl (by omega) (by omega)).mono ?_
 rintro _ H' rfl
 rw [A4C,AE7]
end
structure ShapeOk (m:Mo) (P C:List (List Int)):Prop where
 pl:P.length=m.pts.length
 cl:C.length=m.crs.length
 pe : ∀ i (h1:i < P.length) (h2:i < m.pts.length),P[i].length=m.pts[i].bins.length
 ce : ∀ i (h1:i < C.length) (h2:i < m.crs.length),C[i].length=JO (szs m m.crs[i].pts)
 wp : ∀ xs∈P,Wn xs
 wc : ∀ xs∈C,Wn xs
set_option maxHeartbeats 8000000 in
theorem AIW (G:Nat→AV) (hG:GOk G) (hT:Q8 G) (m:Mo) (hm:MoOk m) (hg:Cov.Good m) {n0:Nat} {h:Hp} {cb tb po co:Nat} {pb cbs:List Nat} {P C:List (List Int)} {sam ill:Int} {v3:AV} (S:CS n0 h cb tb po co pb cbs P C sam ill v3) (hS:ShapeOk m P C)
  (ls:List (List Int)) (hls:ls.length=m.pts.length) (hlen : ∀ l∈ls,l.length≤1048576) (T:TLs h v3 ls) (env:List Sg) (sm:SM) (henv:env.length≤1099511627776) (hsam:0≤sam∧sam≤1099511627776) (hill:0≤ill∧ill≤1099511627776) :
  ACalls (En G) 76 [.agg (EE m),.ptr cb 0 0,.ptr tb 0 0,.sl sm 2 (env.map GI)] h (A3N n0 h cb tb po co pb cbs m P C sam ill ls env):=by
 have hnp:m.pts.length≤16:=by have:=hg.num; omega
 have hnc:m.crs.length≤16:=by have:=hg.num; omega
 have hrl:=UM m ls env hls
 have hrg:=XK m ls env
 refine NY (H:=hint [] []) (enM G) Tryz.func76 rfl (by kernel_rfl) (by kernel_rfl) (jH (by kernel_rfl)) ?_
 show awp _ _ _ _ _ (D8 _ [.tmp 8] _)
 unfold A3N
 generalize N8 m ls env=rs at hrl hrg ⊢
 have gm:=CW h (ABlk.live 2 [EE m])
 have hx:=(ext.rfl' h).app [ABlk.live 2 [EE m]]
 have hl0:(h ++ [ABlk.live 2 [EE m]]).length=h.length+1:=by simp
 simp -implicitDefEqProofs only [DC,jJ,BC,BA,A8,AY,BB,AL,BD,AX,AC,AA,AZ,AU,BH,A7,FM,BX,BN,CB,AB,BF,↓reduceIte,jC,jM,jA,jB,enP,JV,D5,bxM]
 generalize h ++ [ABlk.live 2 [EE m]]=H0 at gm hx hl0 ⊢
 have lm0 : ∀ H:Hp,H[h.length]? = some (.live 2 [EE m])→DX Tryz.prog H 22 (.ptr h.length 0 0)=some (.sl m.pm 6 (m.pts.map F9)):=fun H g=>by rw [DJ Z7 g (row:=EE m) rfl,SE]
 have lm1 : ∀ H:Hp,H[h.length]? = some (.live 2 [EE m])→DX Tryz.prog H 23 (.ptr h.length 0 1)=some (.sl m.cm 3 (m.crs.map G6)):=fun H g=>by rw [DJ AD2 g (row:=EE m) rfl,U1]
 have gm1:=CU (x:=ABlk.live 1 (jY m.pts.length G7)) gm
 have gh1:=CW H0 (ABlk.live 1 (jY m.pts.length G7))
 have hx1:=hx.app [ABlk.live 1 (jY m.pts.length G7)]
 have hl1:(H0 ++ [ABlk.live 1 (jY m.pts.length G7)]).length=h.length+2:=by simp; omega
 simp -implicitDefEqProofs only [DC,jJ,BC,BA,A8,AY,BB,AL,BD,AX,AC,AA,AZ,A7,BX,PD,BN,D6,CB,AB,↓reduceIte,jC,jM,jA,jB,enP,UQ,JV,D5,lm0 _ gm,jI,A4V _ _ (show m.pts.length≤1048576 by omega)]
 generalize H0 ++ [ABlk.live 1 (jY m.pts.length G7)]=H1 at gm1 gh1 hx1 hl1 ⊢
 rw [hl0] at gh1 ⊢
 have gm2:=CU (x:=ABlk.live 1 (jY m.pts.length G7)) gm1
 have gh2:=CU (x:=ABlk.live 1 (jY m.pts.length G7)) gh1
 have gl2:=CW H1 (ABlk.live 1 (jY m.pts.length G7))
 have hx2:=hx1.app [ABlk.live 1 (jY m.pts.length G7)]
 simp -implicitDefEqProofs only [DC,jJ,BC,BA,A8,AY,BB,AL,BD,AX,AC,AA,AZ,AU,BM,A7,BX,PD,BN,D6,CB,AB,↓reduceIte,jC,jM,jA,jB,enP,UQ,JV,D5,lm0 _ gm1,jI,A4V _ _ (show m.pts.length≤1048576 by omega)]
 generalize H1 ++ [ABlk.live 1 (jY m.pts.length G7)]=H2 at gm2 gh2 gl2 hx2 ⊢
 rw [hl1] at gl2 ⊢
 have hhl:(rs.map PtR.hit).length=m.pts.length:=by simp [hrl]
 have hnl:(rs.map PtR.next).length=m.pts.length:=by simp [hrl]
 simp -implicitDefEqProofs only [DC,jJ,BP,A8,AY,BB,AL,BD,AX,AC,AA,AZ,AU,BH,BG,D6,AB,↓reduceIte,jA,jB,enP,UQ,D5,lm0 _ gm2,jI]
 refine JA 0 (fun F H=>F 1 = .ptr cb 0 0∧F 2 = .ptr tb 0 0∧F 4 = .ptr h.length 0 0∧F 9 = .own (h.length+1) 0 m.pts.length∧F 10 = .own (h.length+2) 0 m.pts.length∧F 11 = .bool (rs.any PtR.bad)∧ext h H∧H[h.length]? = some (.live 2 [EE m]) ∧
   H[h.length+1]? = some (.live 1 ((rs.map PtR.hit).map QH))∧H[h.length+2]? = some (.live 1 ((rs.map PtR.next).map QX))∧L6 PtR.err rs=0)
  (fun F H => ∃ e,F 8 = .int .i64 e∧e≠0∧L6 PtR.err rs=e∧ext h H) ?_ ?_ ?_
 ·refine DY (fun n F H => ∃ i,n+i=m.pts.length∧F 1 = .ptr cb 0 0∧F 2 = .ptr tb 0 0∧F 3 = .sl sm 2 (env.map GI)∧F 4 = .ptr h.length 0 0∧F 9 = .own (h.length+1) 0 m.pts.length∧F 10 = .own (h.length+2) 0 m.pts.length∧F 11 = .bool ((rs.take i).any PtR.bad)∧F 36 = .sl m.pm 6 (m.pts.map F9)∧F 37 = .int .i64 (m.pts.length:Nat)∧F 38 = .int .i64 (i:Nat)∧ext h H∧H[h.length]? = some (.live 2 [EE m]) ∧
   H[h.length+1]? = some (.live 1 (mix ((rs.map PtR.hit).map QH) (jY m.pts.length G7) i))∧H[h.length+2]? = some (.live 1 (mix ((rs.map PtR.next).map QX) (jY m.pts.length G7) i))∧L6 PtR.err rs=L6 PtR.err (rs.drop i)) m.pts.length
   ⟨0,by simp,by simp -implicitDefEqProofs only [AA,BF,BL,↓reduceIte,jC],by simp -implicitDefEqProofs only [AA,BF,BL,↓reduceIte,jC],by simp -implicitDefEqProofs only [AA,BF,BL,↓reduceIte,jC],by simp -implicitDefEqProofs only [AA,↓reduceIte,jC],by simp -implicitDefEqProofs only [AA,↓reduceIte,jC],by simp -implicitDefEqProofs only [AA,↓reduceIte,jC],by simp -implicitDefEqProofs only [AA,↓reduceIte,jC]; rfl,by simp -implicitDefEqProofs only [AA,↓reduceIte,jC],by simp -implicitDefEqProofs only [AA,↓reduceIte,jC],by simp -implicitDefEqProofs only [AA,↓reduceIte]; rfl,hx2,gm2,gh2,gl2,rfl⟩ ?_
  rintro n F H ⟨i,hi,f1,f2,f3,f4,f9,f10,f11,f36,f37,f38,hxH,gmH,ghH,glH,hfst⟩
  simp -implicitDefEqProofs only [DC,jJ,BC,BA,BI,A8,AY,BB,AL,BD,AX,AC,AA,AZ,BQ,AB,C9,↓reduceIte,jA,jB,enP,D5,f37,f38]
  refine CV (fun hc => ?_) (fun hc => ?_)
  ·have hi':i < m.pts.length:=by simpa using hc
   have hir:i < rs.length:=by omega
   have hil:i < ls.length:=by omega
   have hp:=hm.pts _ (jO hi')
   have hri:rs[i]=ptE m.pts[i] ls[i] env:=hrg i hi' hil hir
   rw [VH _ _ _ hir] at hfst
   have hbad:(rs.take (i+1)).any PtR.bad=((rs.take i).any PtR.bad || rs[i].bad):=by rw [zN hir,List.any_append]; simp
   have hxa:=hxH.app [ABlk.live 6 [F9 m.pts[i]]]
   have gma:=CU (x:=ABlk.live 6 [F9 m.pts[i]]) gmH
   have gha:=CU (x:=ABlk.live 6 [F9 m.pts[i]]) ghH
   have gla:=CU (x:=ABlk.live 6 [F9 m.pts[i]]) glH
   have gpa:=CW H (ABlk.live 6 [F9 m.pts[i]])
   simp -implicitDefEqProofs only [DC,jJ,BC,BP,BA,BR,A8,AY,BB,AL,BD,AX,AC,ES,AA,AZ,BG,A7,FO,BX,EI,CG,CB,AB,DT,↓reduceIte,jC,jA,jB,enP,WQ,D5,jT,f36,f38,D7 hi',FP AEV AAY I7 hi',A0X,AX9 _ _ [.str ⟨#[]⟩,.int .i64 0,.int .i64 0,.str ⟨#[]⟩,.sl .nil 0 [],.sl .nil 0 []] rfl]
   generalize H ++ [ABlk.live 6 [F9 m.pts[i]]]=Ha at hxa gma gha gla gpa ⊢
   have Sa:=S.ext hxa
   obtain ⟨a,s',k',hix,hld,hk'⟩:=(T.ext hxa).ld i hil
   have hcall:=A02 G hG m.pts[i] hp ls[i] s' k' hk' env sm Ha (hlen _ (jO hil)) henv
   rw [← hri] at hcall
   unfold ptV at hcall
   refine FN (by kernel_rfl) ?_
   simp -implicitDefEqProofs only [G5,DC,jJ,EM,D9,EQ,GH,FT,EX,EU,KL,H6,GN,AA,AZ,BU,BX,BN,CG,EW,AB,jE,jD,jF,↓reduceIte,jC,jQ,jM,jA,enP,AEH,ABC,GR,OW,IV,f2,f3,ldP gpa,Sa.lt0,hix,hld]
   refine ⟨_,hcall,?_⟩
   simp -implicitDefEqProofs only [G5,zH,zL,DC,jJ,EM,D9,FU,EQ,JI,KL,BC,BA,BI,A8,AY,BB,AL,BD,AX,AC,AA,AZ,AU,BH,BG,BQ,EW,GG,AB,ET,↓reduceIte,jC,jQ,jA,jB,enP,D5]
   cases he:(rs[i].err == 0)
   ·have hne:rs[i].err≠0:=by simpa using he
    rw [if_neg hne] at hfst
    simp -implicitDefEqProofs only [DC,jJ,BC,BA,BJ,A8,CQ,ED,RI,F7,CZ,AY,BB,AL,BD,AX,AC,AA,AZ,BG,A7,↓reduceIte,jC,jA,jB,D5,bne,he]
    exact ⟨rs[i].err,by trivial,hne,hfst,hxa⟩
   ·have hz:rs[i].err=0:=by simpa using he
    rw [if_pos hz] at hfst
    have hm1:=AGT (ys:=(rs.map PtR.hit).map QH) (xs:=jY m.pts.length G7) (i:=i) (j:=i) (by simp [hrl]) (jK _) (by simp; omega)
    have hm2:=AGT (ys:=(rs.map PtR.next).map QX) (xs:=jY m.pts.length G7) (i:=i) (j:=i) (by simp [hrl]) (jK _) (by simp; omega)
    rw [List.getElem_replicate] at hm1 hm2
    have hs1:=XP (ys:=(rs.map PtR.hit).map QH) (xs:=jY m.pts.length G7) (i:=i) (by simp [hrl]) (by simp; omega) (by simp; omega)
    have hs2:=XP (ys:=(rs.map PtR.next).map QX) (xs:=jY m.pts.length G7) (i:=i) (by simp [hrl]) (by simp; omega) (by simp; omega)
    rw [List.getElem_map,List.getElem_map] at hs1 hs2
    have hi1:=I5 (kk := .i64) (off:=0) (len:=m.pts.length) gha hi'
    rw [jG] at hi1
    have hst1:FB Tryz.prog Ha 26 (.ptr (h.length+1) i 0) (.sl (nm rs[i].hit) 1 (rs[i].hit.map JH))=some (Ha.set (h.length+1) (.live 1 (mix ((rs.map PtR.hit).map QH) (jY m.pts.length G7) (i+1)))):=by
     rw [JC (AXE _ _ _) AIJ gha hm1 (by simp [G7]),← hs1]; rfl
    have gmb:(Ha.set (h.length+1) (.live 1 (mix ((rs.map PtR.hit).map QH) (jY m.pts.length G7) (i+1))))[h.length]? = _:=DU gma (by omega)
    have glb:(Ha.set (h.length+1) (.live 1 (mix ((rs.map PtR.hit).map QH) (jY m.pts.length G7) (i+1))))[h.length+2]? = _:=DU gla (by omega)
    have ghb:(Ha.set (h.length+1) (.live 1 (mix ((rs.map PtR.hit).map QH) (jY m.pts.length G7) (i+1))))[h.length+1]? = _:=EJ gha
    have hxb:=hxa.set (b:=h.length+1) (by omega) (.live 1 (mix ((rs.map PtR.hit).map QH) (jY m.pts.length G7) (i+1)))
    have hi1l:=I5 (kk := .i64) (off:=0) (len:=m.pts.length) gla hi'
    rw [jG] at hi1l
    simp -implicitDefEqProofs only [DC,jJ,BC,BA,BR,A8,DI,AY,AL,BD,AX,AC,ES,AA,AZ,BG,EI,CG,AB,DT,↓reduceIte,jC,jA,jV,jB,enP,AEH,D5,jT,bne,he,f9,f10,hi1,hst1]
    generalize Ha.set (h.length+1) (.live 1 (mix ((rs.map PtR.hit).map QH) (jY m.pts.length G7) (i+1)))=Hb at gmb glb ghb hxb ⊢
    have hi2:=I5 (kk := .i64) (off:=0) (len:=m.pts.length) glb hi'
    rw [jG] at hi2
    have hst2:FB Tryz.prog Hb 26 (.ptr (h.length+2) i 0) (.sl (nm rs[i].next) 1 (rs[i].next.map qencI))=some (Hb.set (h.length+2) (.live 1 (mix ((rs.map PtR.next).map QX) (jY m.pts.length G7) (i+1)))):=by
     rw [JC (AXE _ _ _) AIJ glb hm2 (by simp [G7]),← hs2]; rfl
    simp -implicitDefEqProofs only [DC,jJ,BA,A8,AY,BB,BK,BV,CO,AL,BD,AX,AC,ES,AA,AZ,BG,EI,AB,DT,↓reduceIte,jC,jA,jB,enP,D5,jT,f10,hi2,hst2]
    have gmc:(Hb.set (h.length+2) (.live 1 (mix ((rs.map PtR.next).map QX) (jY m.pts.length G7) (i+1))))[h.length]? = _:=DU gmb (by omega)
    have ghc:(Hb.set (h.length+2) (.live 1 (mix ((rs.map PtR.next).map QX) (jY m.pts.length G7) (i+1))))[h.length+1]? = _:=DU ghb (by omega)
    have glc:(Hb.set (h.length+2) (.live 1 (mix ((rs.map PtR.next).map QX) (jY m.pts.length G7) (i+1))))[h.length+2]? = _:=EJ glb
    have hxc:=hxb.set (b:=h.length+2) (by omega) (.live 1 (mix ((rs.map PtR.next).map QX) (jY m.pts.length G7) (i+1)))
    generalize Hb.set (h.length+2) (.live 1 (mix ((rs.map PtR.next).map QX) (jY m.pts.length G7) (i+1)))=Hc at gmc ghc glc hxc ⊢
    simp -implicitDefEqProofs only [f11]
    cases hq:(rs.take i).any PtR.bad
    ·rw [hq,Bool.false_or] at hbad
     simp -implicitDefEqProofs only [DC,jJ,BA,A8,EH,ER,AY,BB,EF,AL,BD,AX,AC,AA,AZ,AU,BH,BM,BG,A7,CP,DN,BQ,AB,DK,↓reduceIte,jC,jA,jB,enP,D5,f38,wrap_succ (show i < 9223372036854775807 by omega)]
     exact ⟨n - 1,by omega,i+1,by omega,by trivial,by trivial,by trivial,by trivial,by trivial,by trivial,by first | rw [hbad] | (rw [hbad]; rfl),by trivial,by trivial,by trivial,hxc,gmc,ghc,glc,hfst⟩
    ·rw [hq,Bool.true_or] at hbad
     simp -implicitDefEqProofs only [DC,jJ,BA,A8,EH,ER,AY,BB,FI,AL,BD,AX,AC,AA,EK,AZ,AU,BH,BM,BG,A7,CP,DL,BQ,AB,DK,↓reduceIte,jC,jA,jB,enP,D5,f38,wrap_succ (show i < 9223372036854775807 by omega)]
     exact ⟨n - 1,by omega,i+1,by omega,by trivial,by trivial,by trivial,by trivial,by trivial,by trivial,by first | rw [hbad] | (rw [hbad]; rfl),by trivial,by trivial,by trivial,hxc,gmc,ghc,glc,hfst⟩
  ·have hi':i=m.pts.length:=by
    have : ¬ i < m.pts.length:=by simpa using hc
    omega
   subst hi'
   have e1:=XQ (ys:=(rs.map PtR.hit).map QH) (xs:=jY m.pts.length G7) (by simp [hrl])
   have e2:=XQ (ys:=(rs.map PtR.next).map QX) (xs:=jY m.pts.length G7) (by simp [hrl])
   rw [List.length_replicate] at e1 e2
   rw [e1] at ghH
   rw [e2] at glH
   rw [jW (by omega)] at f11
   rw [zG (by omega)] at hfst
   simp -implicitDefEqProofs only [DW,EG,NG,EZ,AA,↓reduceIte,jC]
   exact ⟨f1,f2,f4,f9,f10,f11,hxH,gmH,ghH,glH,hfst⟩
 ·rintro F H ⟨f1,f2,f4,f9,f10,f11,hxH,gmH,ghH,glH,hfst⟩
  have S1:=S.ext hxH
  have hwp : ∀ b∈pb,b < h.length:=fun b hb=>S.np.mem_lt hb
  have hwc : ∀ b∈cbs,b < h.length:=fun b hb=>S.nc.mem_lt hb
  have htl:=CE S.gt
  have hcl:=CE S.gc
  have hstT:FB Tryz.prog H 67 (.ptr tb 0 0) (.own (h.length+2) 0 m.pts.length)=some (H.set tb (.live 1 [[.own (h.length+2) 0 m.pts.length]])):=NQ (row := [v3]) (AHV _ _ _) AX4 S1.gt (by simp)
  have S2:=S1.setT (.own (h.length+2) 0 m.pts.length)
  have fr2:Fr1 h (H.set tb (.live 1 [[.own (h.length+2) 0 m.pts.length]])) cb tb pb cbs:=(Fr1.of_ext hxH).set (.inr (.inl rfl)) _
  have gm2:(H.set tb (.live 1 [[.own (h.length+2) 0 m.pts.length]]))[h.length]? = _:=DU gmH (by omega)
  have gh2:(H.set tb (.live 1 [[.own (h.length+2) 0 m.pts.length]]))[h.length+1]? = _:=DU ghH (by omega)
  have gl2:(H.set tb (.live 1 [[.own (h.length+2) 0 m.pts.length]]))[h.length+2]? = _:=DU glH (by omega)
  simp -implicitDefEqProofs only [DC,jJ,BC,BA,A8,EY,AY,BB,AL,BD,AX,AC,ES,AA,AZ,BG,EI,BN,AB,DT,↓reduceIte,jC,jM,jA,jB,enP,ABC,D5,jT,GR,IV,f2,f10,hstT]
  generalize H.set tb (.live 1 [[.own (h.length+2) 0 m.pts.length]])=H3 at S2 fr2 gm2 gh2 gl2 ⊢
  simp -implicitDefEqProofs only [DC,jJ,AY,AL,BD,AX,AC,AA,AZ,BU,BN,BZ,BO,AB,jE,jD,jF,↓reduceIte,jG,jA,jB,enP,A24,D5,IV,f1]
  refine (TD G S2.gc (i:=0) (j:=2) (n:=sam) rfl rfl (by omega) (by omega)).mono ?_
  intro _ H4 e4
  have e4':H4=H3.set cb (.live 4 [cvR po P co C (rz sam) ill]):=e4
  have S4:=S2.setN (rz sam) ill
  have fr4:=fr2.set (.inl rfl) (.live 4 [cvR po P co C (rz sam) ill])
  have gm4:(H3.set cb (.live 4 [cvR po P co C (rz sam) ill]))[h.length]? = _:=DU gm2 (by omega)
  have gh4:(H3.set cb (.live 4 [cvR po P co C (rz sam) ill]))[h.length+1]? = _:=DU gh2 (by omega)
  have gl4:(H3.set cb (.live 4 [cvR po P co C (rz sam) ill]))[h.length+2]? = _:=DU gl2 (by omega)
  rw [← e4'] at S4 fr4 gm4 gh4 gl4
  clear e4 e4'
  have P4:Ph n0 h H4 cb tb po co pb cbs m h.length (h.length+1) (h.length+2) P C (rz sam) ill (rs.map PtR.hit) (rs.map PtR.next):=⟨gm4,gh4,gl4,S4,fr4,hwp,hwc,jK _,by omega,by omega⟩
  simp -implicitDefEqProofs only [DC,jJ,BC,BA,BI,A8,AY,BB,AL,BD,AX,AC,AA,AZ,BG,↓reduceIte,jC,jA,jB,D5,f11]
  refine SG (fun F H=>F 1 = .ptr cb 0 0∧F 4 = .ptr h.length 0 0∧F 9 = .own (h.length+1) 0 m.pts.length∧Ph n0 h H cb tb po co pb cbs m h.length (h.length+1) (h.length+2) P C (rz sam) (if rs.any PtR.bad=true then rz ill else ill) (rs.map PtR.hit) (rs.map PtR.next)) (fun _ _=>False) ?_ ?_ ?_ (fun _ _ hh=>hh.elim)
  ·intro hb
   simp -implicitDefEqProofs only [DC,jJ,BA,AY,AL,BD,AX,AC,AA,AZ,BU,BG,BN,BZ,BO,AB,jE,jD,jF,↓reduceIte,jC,jG,jA,jB,enP,A23,D5,GR,IV,f1]
   refine (TD G S4.gc (i:=0) (j:=3) (n:=ill) rfl rfl (by omega) (by omega)).mono ?_
   intro _ H5 e5
   have e5':H5=H4.set cb (.live 4 [cvR po P co C (rz sam) (rz ill)]):=e5
   have S5:=S4.setN (rz sam) (rz ill)
   have fr5:=fr4.set (.inl rfl) (.live 4 [cvR po P co C (rz sam) (rz ill)])
   have gm5:(H4.set cb (.live 4 [cvR po P co C (rz sam) (rz ill)]))[h.length]? = _:=DU gm4 (by omega)
   have gh5:(H4.set cb (.live 4 [cvR po P co C (rz sam) (rz ill)]))[h.length+1]? = _:=DU gh4 (by omega)
   have gl5:(H4.set cb (.live 4 [cvR po P co C (rz sam) (rz ill)]))[h.length+2]? = _:=DU gl4 (by omega)
   rw [← e5'] at S5 fr5 gm5 gh5 gl5
   rw [if_pos hb]
   simp -implicitDefEqProofs only [QC,BB,AC,AA,↓reduceIte,jC,f4,f9]
   exact ⟨by trivial,by trivial,by trivial,gm5,gh5,gl5,S5,fr5,hwp,hwc,jK _,by omega,by omega⟩
  ·intro hb
   rw [if_neg (by rw [hb]; decide)]
   simp -implicitDefEqProofs only [BR,QC,AA,↓reduceIte,jC]
   exact ⟨f1,f4,f9,P4⟩
  clear P4 S4 fr4 gm4 gh4 gl4 S2 fr2 gm2 gh2 gl2 hstT S1 f1 f2 f4 f9 f10 f11
  rintro F H ⟨f1,f4,f9,PS⟩
  generalize (if rs.any PtR.bad=true then rz ill else ill)=ill' at PS ⊢
  have hbl:=S.np.len
  have hcl2:=S.nc.len
  have hpl:=hS.pl
  have hcll:=hS.cl
  have hsl:=UE rs P (by omega)
  have hscl:=UG m (rs.map PtR.hit) C hcll
  have h64 : ∀ x∈rs.map PtR.hit,x.length≤1048576:=by
   intro x hx
   obtain ⟨r,hr,rfl⟩:=zJ.1 hx
   obtain ⟨i,hi,rfl⟩:=qH hr
   rw [hrg i (by omega) (by omega) hi]
   have h1:=AYO m.pts[i] ls[i] env
   have h2:=(hg.full _ (jO (show i < m.pts.length by omega))).2
   omega
  simp -implicitDefEqProofs only [DC,jJ,BC,BP,BA,A8,AY,BB,AL,BD,AX,AC,AA,AZ,AU,BH,BG,D6,AB,↓reduceIte,jA,jB,enP,AZD,D5,f9]
  refine JA 2 (fun F H=>F 1 = .ptr cb 0 0∧F 4 = .ptr h.length 0 0∧F 9 = .own (h.length+1) 0 m.pts.length∧Ph n0 h H cb tb po co pb cbs m h.length (h.length+1) (h.length+2) (PQ rs P) C (rz sam) ill' (rs.map PtR.hit) (rs.map PtR.next)) (fun _ _=>False) ?_ ?_ (fun _ _ hh=>hh.elim)
  ·refine DY (fun n F H => ∃ i,n+i=m.pts.length∧F 1 = .ptr cb 0 0∧F 4 = .ptr h.length 0 0∧F 9 = .own (h.length+1) 0 m.pts.length∧F 87 = .own (h.length+1) 0 m.pts.length∧F 88 = .int .i64 (m.pts.length:Nat)∧F 89 = .int .i64 (i:Nat) ∧
    Ph n0 h H cb tb po co pb cbs m h.length (h.length+1) (h.length+2) (mix (PQ rs P) P i) C (rz sam) ill' (rs.map PtR.hit) (rs.map PtR.next)) m.pts.length ⟨0,by simp,by simp -implicitDefEqProofs only [AA,↓reduceIte,jC,f1],by simp -implicitDefEqProofs only [AA,↓reduceIte,jC,f4],by simp -implicitDefEqProofs only [AA,↓reduceIte,jC,f9],by simp -implicitDefEqProofs only [AA,↓reduceIte,jC],by simp -implicitDefEqProofs only [AA,↓reduceIte,jC],by simp -implicitDefEqProofs only [AA,↓reduceIte] <;> rfl,PS⟩ ?_
   rintro n F H ⟨i,hi,f1,f4,f9,f87,f88,f89,PS⟩
   simp -implicitDefEqProofs only [DC,jJ,BC,BA,BI,A8,AY,BB,AL,BD,AX,AC,AA,AZ,BQ,AB,C9,↓reduceIte,jA,jB,enP,D5,f88,f89]
   refine CV (fun hc => ?_) (fun hc => ?_)
   ·have hi':i < m.pts.length:=by simpa using hc
    have hir:i < rs.length:=by omega
    have hiP:i < P.length:=by omega
    have hipb:i < pb.length:=by omega
    have hmx:=AGS (ys:=PQ rs P) (xs:=P) (i:=i) hsl (by omega)
    have hmi:=ACD (ys:=PQ rs P) (xs:=P) (i:=i) (j:=i) hsl (jK _) hiP (by omega)
    have hsg:=UF rs P i hir hiP (by omega)
    have hms:=XP (ys:=PQ rs P) (xs:=P) (i:=i) hsl hiP (by omega)
    have hri:rs[i]=ptE m.pts[i] ls[i] env:=hrg i hi' (by omega) hir
    have hpe:=hS.pe i hiP hi'
    have hlt : ∀ x∈rs[i].hit,x < P[i].length:=fun x hx=>by rw [hri] at hx; rw [hpe]; exact AGK _ _ _ x hx
    have hll:rs[i].hit.length≤1048576:=h64 _ (zJ.2 ⟨rs[i],jO hir,rfl⟩)
    have hwi:Wn P[i]:=hS.wp _ (jO hiP)
    have hi1:=I5 (kk := .i64) (off:=0) (len:=m.pts.length) PS.gh hi'
    rw [jG] at hi1
    have lh:DX Tryz.prog H 26 (.ptr (h.length+1) i 0)=some (.sl (nm rs[i].hit) 1 (rs[i].hit.map JH)):=by
     rw [DJ OA PS.gh (row:=QH rs[i].hit) (by rw [row_map (by simpa using hir)]; simp)]; rfl
    generalize hht:rs[i].hit=hit at hlt hll lh hsg
    obtain ⟨M,hmm,hmx,hmi,hms⟩ : ∃ M,mix (PQ rs P) P i=M∧M.length=P.length∧(∀ h:i < M.length,M[i]=P[i])∧M.set i (PQ rs P)[i]=mix (PQ rs P) P (i+1):=⟨_,rfl,hmx,fun _=>hmi,hms⟩
    rw [hmm] at PS
    simp -implicitDefEqProofs only [DC,jJ,BC,BP,BA,BR,A8,AY,BB,AL,BD,AX,AC,AA,AZ,AU,BH,BG,A7,BX,CG,D6,AB,↓reduceIte,jC,jA,jB,enP,KH,AEH,D5,f87,f89,hi1,lh,jI]
    refine JA 4 (fun F H=>F 1 = .ptr cb 0 0∧F 4 = .ptr h.length 0 0∧F 9 = .own (h.length+1) 0 m.pts.length∧F 87 = .own (h.length+1) 0 m.pts.length∧F 88 = .int .i64 (m.pts.length:Nat)∧F 89 = .int .i64 (i:Nat)∧Ph n0 h H cb tb po co pb cbs m h.length (h.length+1) (h.length+2) (M.set i (rowP hit P[i])) C (rz sam) ill' (rs.map PtR.hit) (rs.map PtR.next)) (fun _ _=>False) ?_ ?_ (fun _ _ hh=>hh.elim)
    ·have e0:M.set i (rowP (hit.take 0) P[i])=M:=by
      show M.set i P[i]=M
      rw [← hmi (by omega),List.set_getElem_self]
     refine DY (fun n F H => ∃ j,n+j=hit.length∧F 1 = .ptr cb 0 0∧F 4 = .ptr h.length 0 0∧F 9 = .own (h.length+1) 0 m.pts.length∧F 87 = .own (h.length+1) 0 m.pts.length∧F 88 = .int .i64 (m.pts.length:Nat)∧F 89 = .int .i64 (i:Nat)∧F 18 = .int .i64 (i:Nat)∧F 94 = .sl (nm hit) 1 (hit.map JH)∧F 95 = .int .i64 (hit.length:Nat)∧F 96 = .int .i64 (j:Nat) ∧
      Ph n0 h H cb tb po co pb cbs m h.length (h.length+1) (h.length+2) (M.set i (rowP (hit.take j) P[i])) C (rz sam) ill' (rs.map PtR.hit) (rs.map PtR.next)) hit.length
      ⟨0,by simp,by simp -implicitDefEqProofs only [AA,↓reduceIte,jC,f1],by simp -implicitDefEqProofs only [AA,↓reduceIte,jC,f4],by simp -implicitDefEqProofs only [AA,↓reduceIte,jC,f9],by simp -implicitDefEqProofs only [AA,↓reduceIte,jC,f87],by simp -implicitDefEqProofs only [AA,↓reduceIte,jC,f88],by simp -implicitDefEqProofs only [AA,↓reduceIte,jC,f89],by simp -implicitDefEqProofs only [AA,↓reduceIte,jC] <;> rfl,by simp -implicitDefEqProofs only [AA,↓reduceIte,jC] <;> rfl,by simp -implicitDefEqProofs only [AA,↓reduceIte,jC] <;> rfl,by simp -implicitDefEqProofs only [AA,↓reduceIte] <;> rfl,by rw [e0]; exact PS⟩ ?_
     clear PS lh hi1
     rintro n' F H ⟨j,hj,f1,f4,f9,f87,f88,f89,f18,f94,f95,f96,PS⟩
     simp -implicitDefEqProofs only [DC,jJ,BC,BA,BI,A8,AY,BB,AL,BD,AX,AC,AA,AZ,BQ,AB,C9,↓reduceIte,jA,jB,enP,D5,f95,f96]
     refine CV (fun hc => ?_) (fun hc => ?_)
     ·have hj':j < hit.length:=by simpa using hc
      have hb:=hlt _ (jO hj')
      have hrl2:=QA (hit.take j) P[i]
      have hiM:i < (M.set i (rowP (hit.take j) P[i])).length:=by rw [List.length_set]; omega
      have hcur:(M.set i (rowP (hit.take j) P[i]))[i]=rowP (hit.take j) P[i]:=List.getElem_set_self _
      have hR:=PS.raiseP G hiM hipb hit[j] (by rw [hcur,hrl2]; exact hb) (by rw [hcur]; exact Wn.rowP _ hwi)
      rw [hcur] at hR
      obtain ⟨r1,r2,r3,r4,r5⟩:=hR
      have PS2:=PS.setP hipb (raiseAt (rowP (hit.take j) P[i]) hit[j]) (fun _=>by rw [hcur,QU])
      rw [List.set_set,← rowP_step _ _ _ hj'] at PS2
      rw [← rowP_step _ _ _ hj'] at r5
      simp -implicitDefEqProofs only [DC,jJ,BC,BP,BA,BR,A8,AY,BB,AL,BD,AX,AC,AA,AZ,BU,BG,A7,BX,BN,CG,BZ,BO,AB,jE,jD,jF,↓reduceIte,jC,jM,jA,jB,enP,JS,AEH,AG8,D5,GR,IV,f94,f96,D7 hj',DZ ag3 hj',encN0,f1,f18,r1,r2,r3,r4]
      refine r5.mono ?_
      rintro _ H' rfl
      simp -implicitDefEqProofs only [DC,jJ,BA,A8,EH,ER,AY,BB,AL,BD,AX,AC,AA,AZ,AU,BH,BG,BQ,AB,DK,↓reduceIte,jC,jA,jB,enP,D5,f96,wrap_succ (show j < 9223372036854775807 by omega)]
      exact ⟨n' - 1,by omega,j+1,by omega,by trivial,by trivial,by trivial,by trivial,by trivial,by trivial,by trivial,by trivial,by trivial,by trivial,PS2⟩
     ·have hj' : ¬ j < hit.length:=by simpa using hc
      rw [jW (by omega)] at PS
      simp -implicitDefEqProofs only [DW,EG,NG,EZ,AA,↓reduceIte,jC]
      exact ⟨f1,f4,f9,f87,f88,f89,PS⟩
    ·rintro F H ⟨f1,f4,f9,f87,f88,f89,PS⟩
     have e1:M.set i (rowP hit P[i])=mix (PQ rs P) P (i+1):=by rw [← hms,hsg]
     rw [e1] at PS
     simp -implicitDefEqProofs only [DC,jJ,BA,A8,EH,EY,ER,AY,BB,AL,BD,AX,AC,AA,AZ,AU,BH,BG,BQ,AB,DK,↓reduceIte,jC,jA,jB,enP,D5,f89,wrap_succ (show i < 9223372036854775807 by omega)]
     exact ⟨n - 1,by omega,i+1,by omega,by trivial,by trivial,by trivial,by trivial,by trivial,by trivial,PS⟩
   ·have hi':i=P.length:=by
     have : ¬ i < m.pts.length:=by simpa using hc
     omega
    subst hi'
    rw [XQ hsl] at PS
    simp -implicitDefEqProofs only [DW,EG,NG,EZ,AA,↓reduceIte,jC]
    exact ⟨f1,f4,f9,PS⟩
  clear PS f1 f4 f9
  rintro F H ⟨f1,f4,f9,PS⟩
  simp -implicitDefEqProofs only [DC,jJ,BC,BP,BA,A8,EY,AY,BB,AL,BD,AX,AC,AA,AZ,AU,BH,BG,BX,BN,D6,AB,↓reduceIte,jG,jA,jB,enP,AEF,L8,D5,f4,lm1 _ PS.gm,jI]
  refine JA 6 (fun F H=>Ph n0 h H cb tb po co pb cbs m h.length (h.length+1) (h.length+2) (PQ rs P) (RY m (rs.map PtR.hit) C) (rz sam) ill' (rs.map PtR.hit) (rs.map PtR.next)) (fun _ _=>False) ?_ ?_ (fun _ _ hh=>hh.elim)
  ·refine DY (fun n F H => ∃ i,n+i=m.crs.length∧F 1 = .ptr cb 0 0∧F 4 = .ptr h.length 0 0∧F 9 = .own (h.length+1) 0 m.pts.length∧F 113 = .sl m.cm 3 (m.crs.map G6)∧F 114 = .int .i64 (m.crs.length:Nat)∧F 115 = .int .i64 (i:Nat) ∧
    Ph n0 h H cb tb po co pb cbs m h.length (h.length+1) (h.length+2) (PQ rs P) (mix (RY m (rs.map PtR.hit) C) C i) (rz sam) ill' (rs.map PtR.hit) (rs.map PtR.next)) m.crs.length ⟨0,by simp,by simp -implicitDefEqProofs only [AA,↓reduceIte,jC,f1],by simp -implicitDefEqProofs only [AA,↓reduceIte,jC,f4],by simp -implicitDefEqProofs only [AA,↓reduceIte,jC,f9],by simp -implicitDefEqProofs only [AA,↓reduceIte,jC],by simp -implicitDefEqProofs only [AA,↓reduceIte,jC],by simp -implicitDefEqProofs only [AA,↓reduceIte] <;> rfl,PS⟩ ?_
   clear PS f1 f4 f9
   rintro n F H ⟨i,hi,f1,f4,f9,f113,f114,f115,PS⟩
   simp -implicitDefEqProofs only [DC,jJ,BC,BA,BI,A8,AY,BB,AL,BD,AX,AC,AA,AZ,BQ,AB,C9,↓reduceIte,jA,jB,enP,D5,f114,f115]
   refine CV (fun hc => ?_) (fun hc => ?_)
   ·have hi':i < m.crs.length:=by simpa using hc
    have hiC:i < C.length:=by omega
    have hicb:i < cbs.length:=by omega
    have hcg:=hg.crs _ (jO hi')
    have hfs:=hg.full.szs hcg.here
    have hzl:=QR m m.crs[i].pts
    have htwo:=hcg.two
    have hfour:=hcg.four
    have hmx:=AGS (ys:=RY m (rs.map PtR.hit) C) (xs:=C) (i:=i) hscl (by omega)
    have hmi:=ACD (ys:=RY m (rs.map PtR.hit) C) (xs:=C) (i:=i) (j:=i) hscl (jK _) hiC (by omega)
    have hsg:=UH m (rs.map PtR.hit) C i hi' hiC (by omega)
    have hms:=XP (ys:=RY m (rs.map PtR.hit) C) (xs:=C) (i:=i) hscl hiC (by omega)
    have hce:=hS.ce i hiC hi'
    have hpr:=hcg.prod
    have hwi:Wn C[i]:=hS.wc _ (jO hiC)
    have PSa:=PS.app [ABlk.live 3 [G6 m.crs[i]]]
    have gx:=CW H (ABlk.live 3 [G6 m.crs[i]])
    have hxl:=PS.fr.le
    simp -implicitDefEqProofs only [DC,jJ,BC,BP,BA,BR,A8,AY,BB,AL,BD,AX,AC,ES,AA,AZ,BG,A7,FO,BX,EI,CG,CB,AB,DT,↓reduceIte,jC,jA,jB,enP,XZ,D5,jT,f113,f115,D7 hi',FP AOH AGH MH hi',A0W,AX7 _ _ [.str ⟨#[]⟩,.sl .nil 0 [],.sl .nil 0 []] rfl]
    generalize H ++ [ABlk.live 3 [G6 m.crs[i]]]=Ha at PSa gx ⊢
    generalize H.length=xb at gx hxl ⊢
    obtain ⟨M,hmm,hmx,hmi,hms⟩ : ∃ M,mix (RY m (rs.map PtR.hit) C) C i=M∧M.length=C.length∧(∀ h:i < M.length,M[i]=C[i])∧M.set i (RY m (rs.map PtR.hit) C)[i]=mix (RY m (rs.map PtR.hit) C) C (i+1):=⟨_,rfl,hmx,fun _=>hmi,hms⟩
    rw [hmm] at PSa
    have hxpb:xb ∉ pb:=fun q=>by have:=hwp _ q; omega
    have hxcb : ∀ (k:Nat) (hk:k < cbs.length),cbs[k]≠xb:=fun k hk q=>by have:=hwc _ (jO hk); omega
    simp -implicitDefEqProofs only [DC,jJ,AY,AL,BD,AX,AC,AA,AZ,BU,BX,BZ,BO,AB,jE,jD,jF,↓reduceIte,jC,jA,jB,enP,D5,f4,ldM PSa.gm,ldC gx]
    refine (WB G m m.crs[i] Ha hcg.here (by omega)).use ?_
    have N:=PSa.cs.nc
    have q2:=N.ix (show i < M.length by omega)
    have q3:=N.ld (show i < M.length by omega)
    rw [hmi] at q3
    simp -implicitDefEqProofs only [DC,jJ,BC,BP,BA,A8,AY,BB,AL,BD,AX,AC,AA,AZ,AU,BH,BG,A7,BX,BN,CG,D6,AB,↓reduceIte,jC,jG,jA,jB,enP,KH,AEH,AC6,D5,GR,IV,f1,PSa.cs.l1,q2,q3]
    refine JA 8 (fun F H=>F 1 = .ptr cb 0 0∧F 4 = .ptr h.length 0 0∧F 9 = .own (h.length+1) 0 m.pts.length∧F 113 = .sl m.cm 3 (m.crs.map G6)∧F 114 = .int .i64 (m.crs.length:Nat)∧F 115 = .int .i64 (i:Nat)∧Ph n0 h H cb tb po co pb cbs m h.length (h.length+1) (h.length+2) (PQ rs P) (M.set i (rowC m m.crs[i] (rs.map PtR.hit) C[i])) (rz sam) ill' (rs.map PtR.hit) (rs.map PtR.next)) (fun _ _=>False) ?_ ?_ (fun _ _ hh=>hh.elim)
    ·have e0:M.set i (mix (rowC m m.crs[i] (rs.map PtR.hit) C[i]) C[i] 0)=M:=by
      show M.set i C[i]=M
      rw [← hmi (by omega),List.set_getElem_self]
     refine DY (fun n F H => ∃ k,n+k=C[i].length∧F 1 = .ptr cb 0 0∧F 4 = .ptr h.length 0 0∧F 9 = .own (h.length+1) 0 m.pts.length∧F 113 = .sl m.cm 3 (m.crs.map G6)∧F 114 = .int .i64 (m.crs.length:Nat)∧F 115 = .int .i64 (i:Nat)∧F 22 = .int .i64 (i:Nat)∧F 23 = .ptr xb 0 0∧F 24 = .sl (nm (szs m m.crs[i].pts)) 1 ((szs m m.crs[i].pts).map JH)∧F 130 = .int .i64 (C[i].length:Nat)∧F 131 = .int .i64 (k:Nat)∧H[xb]? = some (.live 3 [G6 m.crs[i]]) ∧
      Ph n0 h H cb tb po co pb cbs m h.length (h.length+1) (h.length+2) (PQ rs P) (M.set i (mix (rowC m m.crs[i] (rs.map PtR.hit) C[i]) C[i] k)) (rz sam) ill' (rs.map PtR.hit) (rs.map PtR.next)) C[i].length
      ⟨0,by simp,by simp -implicitDefEqProofs only [AA,↓reduceIte,jC,f1],by simp -implicitDefEqProofs only [AA,↓reduceIte,jC,f4],by simp -implicitDefEqProofs only [AA,↓reduceIte,jC,f9],by simp -implicitDefEqProofs only [AA,↓reduceIte,jC,f113],by simp -implicitDefEqProofs only [AA,↓reduceIte,jC,f114],by simp -implicitDefEqProofs only [AA,↓reduceIte,jC,f115],by simp -implicitDefEqProofs only [AA,↓reduceIte,jC] <;> rfl,by simp -implicitDefEqProofs only [AA,↓reduceIte,jC],by simp -implicitDefEqProofs only [AA,↓reduceIte,jC] <;> rfl,by simp -implicitDefEqProofs only [AA,↓reduceIte,jC] <;> rfl,by simp -implicitDefEqProofs only [AA,↓reduceIte] <;> rfl,gx,by rw [e0]; exact PSa⟩ ?_
     clear PS PSa gx q2 q3 N
     rintro n' F H ⟨k,hk,f1,f4,f9,f113,f114,f115,f22,f23,f24,f130,f131,gx,PS⟩
     simp -implicitDefEqProofs only [DC,jJ,BC,BA,BI,A8,AY,BB,AL,BD,AX,AC,AA,AZ,BQ,AB,C9,↓reduceIte,jA,jB,enP,D5,f130,f131]
     refine CV (fun hc => ?_) (fun hc => ?_)
     ·have hk':k < C[i].length:=by simpa using hc
      have hrcl:=rowC_len m m.crs[i] (rs.map PtR.hit) C[i]
      have hrcg:=rowC_get m m.crs[i] (rs.map PtR.hit) C[i] k hk' (by omega)
      have hkl:=AGS (ys:=rowC m m.crs[i] (rs.map PtR.hit) C[i]) (xs:=C[i]) (i:=k) hrcl (by omega)
      have hkg:=ACD (ys:=rowC m m.crs[i] (rs.map PtR.hit) C[i]) (xs:=C[i]) (i:=k) (j:=k) hrcl (jK _) hk' (by omega)
      have hks:=XP (ys:=rowC m m.crs[i] (rs.map PtR.hit) C[i]) (xs:=C[i]) (i:=k) hrcl hk' (by omega)
      have hins:=AIH (szs m m.crs[i].pts) k (fun n hn=>(hfs n hn).1)
      have htl:=QD hins
      have hck:crK m m.crs[i] (rs.map PtR.hit) k=(VM m m.crs[i] (RF (szs m m.crs[i].pts) k) && allB m.crs[i].pts (RF (szs m m.crs[i].pts) k) (rs.map PtR.hit)):=rfl
      have skip:crK m m.crs[i] (rs.map PtR.hit) k=false→mix (rowC m m.crs[i] (rs.map PtR.hit) C[i]) C[i] (k+1)=mix (rowC m m.crs[i] (rs.map PtR.hit) C[i]) C[i] k:=fun hq=>by
       rw [← hks,hrcg,if_neg (by rw [hq]; decide),← hkg,List.set_getElem_self]
      simp -implicitDefEqProofs only [DC,jJ,BC,BP,BA,BR,A8,AY,BB,AL,BD,AX,AC,AA,AZ,BU,BG,A7,BZ,BO,jE,jD,jF,↓reduceIte,jC,jA,jB,D5,f24,f131]
      refine (hT (szs m m.crs[i].pts) _ k H (by omega) (by omega) hfs (by omega)).use ?_
      simp -implicitDefEqProofs only [DC,jJ,BC,BA,A8,AY,BB,AL,BD,AX,AC,AA,AZ,BU,BG,A7,BX,BZ,BO,AB,jE,jD,jF,↓reduceIte,jC,jA,jB,enP,D5,f4,f23,ldM PS.gm,ldC gx]
      refine (AEK G m m.crs[i] (RF (szs m m.crs[i].pts) k) .any H hcg.here hins (by omega) (by have:=hcg.num; omega)).use ?_
      simp -implicitDefEqProofs only [DC,jJ,AY,BK,BV,CO,AL,BD,AX,AC,AA,AZ,BG,↓reduceIte,jA,jB,D5]
      cases h1:VM m m.crs[i] (RF (szs m m.crs[i].pts) k)
      ·rw [h1,Bool.false_and] at hck
       rw [← skip hck] at PS
       simp -implicitDefEqProofs only [DC,jJ,BA,BR,BI,A8,EH,ER,DI,AY,BB,BK,BV,CO,JD,AL,BD,AX,AC,AA,EK,AZ,AU,BH,BM,BG,CP,DN,BQ,AB,DK,↓reduceIte,jC,jA,jB,enP,D5,f131,wrap_succ (show k < 9223372036854775807 by omega)]
       exact ⟨n' - 1,by omega,k+1,by omega,by trivial,by trivial,by trivial,by trivial,by trivial,by trivial,by trivial,by trivial,by trivial,by trivial,by trivial,gx,PS⟩
      rw [h1,Bool.true_and] at hck
      simp -implicitDefEqProofs only [DC,jJ,BK,BV,CO,FY,AL,BD,AX,AC,AA,AZ,BU,BG,BX,BZ,BO,AB,jE,jD,jF,↓reduceIte,jC,jA,jB,enP,D5,f9,f23,ldC gx]
      have hall:=AW8 G m.crs[i] (RF (szs m m.crs[i].pts) k) .any (rs.map PtR.hit) (h.length+1) H PS.gh (fun p hp=>by have:=hcg.here p hp; rw [hhl]; exact this) (by omega) h64 (by omega)
      rw [hhl] at hall
      refine hall.use ?_
      simp -implicitDefEqProofs only [DC,jJ,BI,A8,AY,BB,AL,BD,AX,AC,AA,AZ,AU,BM,CP,DL,↓reduceIte,jC,jA,jB,D5]
      cases h2:allB m.crs[i].pts (RF (szs m m.crs[i].pts) k) (rs.map PtR.hit)
      ·rw [h2] at hck
       rw [← skip hck] at PS
       simp -implicitDefEqProofs only [DC,jJ,BA,BR,A8,EH,ER,DI,AY,BB,AL,BD,AX,AC,AA,AZ,AU,BH,BG,BQ,AB,DK,↓reduceIte,jC,jA,jB,enP,D5,f131,wrap_succ (show k < 9223372036854775807 by omega)]
       exact ⟨n' - 1,by omega,k+1,by omega,by trivial,by trivial,by trivial,by trivial,by trivial,by trivial,by trivial,by trivial,by trivial,by trivial,by trivial,gx,PS⟩
      rw [h2] at hck
      have hiM:i < (M.set i (mix (rowC m m.crs[i] (rs.map PtR.hit) C[i]) C[i] k)).length:=by rw [List.length_set]; omega
      have hcur:(M.set i (mix (rowC m m.crs[i] (rs.map PtR.hit) C[i]) C[i] k))[i]=mix (rowC m m.crs[i] (rs.map PtR.hit) C[i]) C[i] k:=List.getElem_set_self _
      have hwm:Wn (mix (rowC m m.crs[i] (rs.map PtR.hit) C[i]) C[i] k):=by
       intro x hx
       unfold mix at hx
       rcases zY.1 hx with hx | hx
       ·exact Wn.rowC hwi x (List.mem_of_mem_take hx)
       ·exact hwi x (List.mem_of_mem_drop hx)
      have hR:=PS.raiseC G hiM hicb k (by rw [hcur,hkl]; exact hk') (by rw [hcur]; exact hwm)
      rw [hcur] at hR
      obtain ⟨r1,r2,r3,r4,r5⟩:=hR
      have hra:raiseAt (mix (rowC m m.crs[i] (rs.map PtR.hit) C[i]) C[i] k) k=mix (rowC m m.crs[i] (rs.map PtR.hit) C[i]) C[i] (k+1):=by
       rw [← hks,hrcg,if_pos hck]
       unfold raiseAt
       congr 2
       rw [jZ,jL (by omega)]
       exact hkg
      have PS2:=PS.setC hicb (raiseAt (mix (rowC m m.crs[i] (rs.map PtR.hit) C[i]) C[i] k) k) (fun _=>by rw [hcur,QU])
      rw [List.set_set,hra] at PS2
      rw [hra] at r5
      have gx2:=DU (y := .live 1 ((mix (rowC m m.crs[i] (rs.map PtR.hit) C[i]) C[i] (k+1)).map qencI)) gx (hxcb i hicb).symm
      simp -implicitDefEqProofs only [DC,jJ,BA,CZ,AY,AL,BD,AX,AC,AA,AZ,BU,BG,BX,BN,CG,BZ,BO,AB,jE,jD,jF,↓reduceIte,jC,jG,jA,jB,enP,JS,AEH,AC6,D5,GR,IV,f1,f22,f131,r1,r2,r3,r4]
      refine r5.mono ?_
      rintro _ H' rfl
      simp -implicitDefEqProofs only [DC,jJ,BA,A8,EH,ER,AY,BB,AL,BD,AX,AC,AA,AZ,AU,BH,BG,BQ,AB,DK,↓reduceIte,jC,jA,jB,enP,D5,f131,wrap_succ (show k < 9223372036854775807 by omega)]
      exact ⟨n' - 1,by omega,k+1,by omega,by trivial,by trivial,by trivial,by trivial,by trivial,by trivial,by trivial,by trivial,by trivial,by trivial,by trivial,gx2,PS2⟩
     ·have hk':k=C[i].length:=by
       have : ¬ k < C[i].length:=by simpa using hc
       omega
      rw [hk',XQ (rowC_len m m.crs[i] (rs.map PtR.hit) C[i])] at PS
      simp -implicitDefEqProofs only [DW,EG,NG,EZ,AA,↓reduceIte,jC]
      exact ⟨f1,f4,f9,f113,f114,f115,PS⟩
    ·rintro F H ⟨f1,f4,f9,f113,f114,f115,PS⟩
     have e1:M.set i (rowC m m.crs[i] (rs.map PtR.hit) C[i])=mix (RY m (rs.map PtR.hit) C) C (i+1):=by rw [← hms,hsg]
     rw [e1] at PS
     simp -implicitDefEqProofs only [DC,jJ,BA,A8,EH,EY,ER,AY,BB,AL,BD,AX,AC,AA,AZ,AU,BH,BG,BQ,AB,DK,↓reduceIte,jC,jA,jB,enP,D5,f115,wrap_succ (show i < 9223372036854775807 by omega)]
     exact ⟨n - 1,by omega,i+1,by omega,by trivial,by trivial,by trivial,by trivial,by trivial,by trivial,PS⟩
   ·have hi':i=C.length:=by
     have : ¬ i < m.crs.length:=by simpa using hc
     omega
    subst hi'
    rw [XQ hscl] at PS
    simp -implicitDefEqProofs only [DW,EG,NG,EZ,↓reduceIte]
    exact PS
  ·rintro F H PS
   simp -implicitDefEqProofs only [DC,jJ,BC,BA,BJ,A8,EY,CJ,AY,BB,AL,BD,AX,AC,AA,AU,BH,A7,↓reduceIte,jA,jB,D5]
   exact .inr ⟨hfst,by trivial,h.length+2,by omega,PS.gl,PS.cs,PS.fr⟩
 ·rintro F H ⟨e,f8,hne,hfst,hxH⟩
  simp -implicitDefEqProofs only [CQ,ED,CJ,f8]
  exact .inl ⟨e,hne,hfst,by trivial,hxH⟩
theorem ptE_ok (p:Pt) (last:List Int) (l:List Sg) (h1:I4 p=0) (h2:lastB last=true) (h3:(evE l p.ex).2=0) :
  ptE p last l=⟨if (inK p.bins 2 (evE l p.ex).1 || inK p.bins 1 (evE l p.ex).1)=true then [] else X5 p last (evE l p.ex).1 0,nextL last (evE l p.ex).1,inK p.bins 2 (evE l p.ex).1,0⟩:=by
 unfold ptE
 rw [if_neg (by rw [h1,h2]; simp),if_neg (by simpa using h3)]
 cases h4:inK p.bins 2 (evE l p.ex).1
 ·cases h5:inK p.bins 1 (evE l p.ex).1
  ·rfl
  ·rfl
 ·rfl
section
variable (G:Nat→AV)
theorem A5Q (t:Tk):(AKX t)[0]? = some (.sl t.m 1 (t.last.map encL)):=rfl
end
def NLB (o:Nat) (bs:List Nat) (xss:List (List Int)) (b:Nat):Prop:=(xss≠[]∧b=o)∨b∈bs
theorem NL.lt {n0:Nat} {H:Hp} {o:Nat} {bs:List Nat} {xss:List (List Int)} (N:NL n0 H o bs xss) {b:Nat} (hb:NLB o bs xss b):n0≤b∧b < H.length:=by
 rcases hb with ⟨h,rfl⟩ | h
 ·exact ⟨N.lo' h,N.top_lt h⟩
 ·exact ⟨N.lo _ h,N.mem_lt h⟩
theorem NL.base {n0 k:Nat} {H:Hp} {o:Nat} {bs:List Nat} {xss:List (List Int)} (N:NL n0 H o bs xss) (h:k≤n0):NL k H o bs xss :=
 ⟨N.len,N.top,N.row,N.nodup,N.out,fun b hb=>qJ h (N.lo b hb),fun q=>qJ h (N.lo' q)⟩
theorem AH1 {o:Nat} {bs:List Nat} {xss:List (List Int)} {q:Nat} (h:isB (nlV o xss) q):NLB o bs xss q := .inl (AGY h)
theorem AL6 {o t b:Nat} {bs:List Nat} {xss:List (List Int)} {xs:List Int} {q:Nat} (h:NLB t (bs ++ [b]) (xss ++ [xs]) q):q=t∨NLB o bs xss q∨q=b:=by
 rcases h with ⟨_,rfl⟩ | h
 ·exact .inl rfl
 ·rcases zY.1 h with h | h
  ·exact .inr (.inl (.inr h))
  ·exact .inr (.inr (by simpa using h))
def zP (m:Mo):List (List Int):=m.pts.map fun p=>zeros p.bins.length
def zC (m:Mo):List (List Int):=m.crs.map fun c=>zeros (JO (szs m c.pts))
theorem AMD (m:Mo):(zP m).length=m.pts.length:=by simp [zP]
theorem AME (m:Mo):(zC m).length=m.crs.length:=by simp [zC]
theorem AXT (m:Mo) (i:Nat) (hi:i < m.pts.length):(zP m).take (i+1)=(zP m).take i ++ [zeros m.pts[i].bins.length]:=by
 have hl:i < (zP m).length:=by unfold zP; simpa using hi
 rw [zN hl]; simp [zP]
theorem AXU (m:Mo) (i:Nat) (hi:i < m.crs.length):(zC m).take (i+1)=(zC m).take i ++ [zeros (JO (szs m m.crs[i].pts))]:=by
 have hl:i < (zC m).length:=by unfold zC; simpa using hi
 rw [zN hl]; simp [zC]
theorem AEX (n:Nat):(zeros n).length=n:=by simp [zeros]
structure NC (n0:Nat) (H:Hp) (po:Nat) (pb:List Nat) (co:Nat) (cbs:List Nat) (P C:List (List Int)):Prop where
 np:NL n0 H po pb P
 nc:NL n0 H co cbs C
 dis : ∀ b,NLB po pb P b→¬ NLB co cbs C b
theorem NC.keep {n0:Nat} {H H':Hp} {po:Nat} {pb:List Nat} {co:Nat} {cbs:List Nat} {P C:List (List Int)} (N:NC n0 H po pb co cbs P C) (hk : ∀ b x,n0≤b→b < H.length→H[b]? = some x→H'[b]? = some x):NC n0 H' po pb co cbs P C :=
 ⟨N.np.keep fun b x hb h=>hk b x (N.np.lt hb).1 (N.np.lt hb).2 h,N.nc.keep fun b x hb h=>hk b x (N.nc.lt hb).1 (N.nc.lt hb).2 h,N.dis⟩
theorem NC.base {n0 k:Nat} {H:Hp} {po:Nat} {pb:List Nat} {co:Nat} {cbs:List Nat} {P C:List (List Int)} (N:NC n0 H po pb co cbs P C) (h:k≤n0):NC k H po pb co cbs P C:=⟨N.np.base h,N.nc.base h,N.dis⟩
theorem NC.cs {n0:Nat} {H:Hp} {po:Nat} {pb:List Nat} {co:Nat} {cbs:List Nat} {P C:List (List Int)} (N:NC n0 H po pb co cbs P C) {cb tb:Nat} {sam ill:Int} {v3:AV} (gc:H[cb]? = some (.live 4 [cvR po P co C sam ill])) (gt:H[tb]? = some (.live 1 [[v3]])) (ht:cb≠tb)
  (hc : ∀ b,NLB po pb P b∨NLB co cbs C b→b≠cb∧b≠tb):CS n0 H cb tb po co pb cbs P C sam ill v3:=by
 refine ⟨gc,gt,N.np,N.nc,fun b h1 h2=>N.dis b (.inr h1) (.inr h2),fun h=>(hc _ (.inl (.inr h))).1 rfl,fun h=>(hc _ (.inr (.inr h))).1 rfl,fun h=>(hc _ (.inl (.inr h))).2 rfl,fun h=>(hc _ (.inr (.inr h))).2 rfl,fun h=>⟨fun q=>N.dis _ (.inl ⟨h,rfl⟩) (.inr q),?_,?_⟩,fun h=>⟨fun q=>N.dis _ (.inr q) (.inl ⟨h,rfl⟩),?_,?_⟩,ht⟩
 ·exact fun e=>(hc _ (.inl (.inl ⟨h,rfl⟩))).1 e.symm
 ·exact fun e=>(hc _ (.inl (.inl ⟨h,rfl⟩))).2 e.symm
 ·exact fun e=>(hc _ (.inr (.inl ⟨h,rfl⟩))).1 e.symm
 ·exact fun e=>(hc _ (.inr (.inl ⟨h,rfl⟩))).2 e.symm
structure EmO (h H:Hp) (m:Mo) (po:Nat) (pb:List Nat) (co:Nat) (cbs:List Nat) (v3:AV):Prop where
 nc:NC h.length H po pb co cbs (zP m) (zC m)
 o3:outG 1 (fun _:Pt=>G7) h m.pts v3 H
set_option maxHeartbeats 4000000 in
theorem ASL (G:Nat→AV) (m:Mo) (hm:MoOk m) (hg:Cov.Good m) (h:Hp):ACalls (En G) 111 [.agg (EE m)] h fun v H=>ext h H∧∃ po pb co cbs v3,v = .tup [.agg (KO (nlV po (zP m)) (nlV co (zC m))),.agg [v3]]∧EmO h H m po pb co cbs v3:=by
 have hm1:=hm.np
 have hm2:=hm.nc
 have hnum:=hg.num
 refine NY (H:=hint [22,23,24,45,46,47] []) (enM G) Tryz.func111 rfl (by kernel_rfl) (by kernel_rfl) (jH (by kernel_rfl)) ?_
 show awp _ _ _ _ _ (D8 _ [.cell 2 81,.cell 3 120] _)
 have E:=Em.mk' h m
 simp -implicitDefEqProofs only [DC,jS,jJ,jP,jR,BC,BA,A8,AY,BB,AL,BD,AX,AC,AA,AZ,FO,FM,BX,BN,CB,AB,BF,↓reduceIte,jC,jM,jA,jB,enP,JV,D5,bxM,AD0,AXB]
 generalize h ++ [ABlk.live 2 [EE m]] ++ [ABlk.live 4 [IC]] ++ [ABlk.live 1 [G7]] ++ [ABlk.live 4 [IC]] ++ [ABlk.live 1 [G7]]=H0 at E ⊢
 generalize (h ++ [ABlk.live 2 [EE m]] ++ [ABlk.live 4 [IC]] ++ [ABlk.live 1 [G7]] ++ [ABlk.live 4 [IC]]).length=b5 at E ⊢
 generalize (h ++ [ABlk.live 2 [EE m]] ++ [ABlk.live 4 [IC]] ++ [ABlk.live 1 [G7]]).length=b4 at E ⊢
 generalize (h ++ [ABlk.live 2 [EE m]] ++ [ABlk.live 4 [IC]]).length=b3 at E ⊢
 generalize (h ++ [ABlk.live 2 [EE m]]).length=b2 at E ⊢
 have o2:=E.o2; have o3:=E.o3; have o4:=E.o4; have o5:=E.o5
 have hlt0:=E.lt
 simp -implicitDefEqProofs only [DC,jS,jJ,jP,jR,BP,A8,AY,BB,AL,BD,AX,AC,AA,AZ,AU,BH,BG,D6,AB,↓reduceIte,jA,jB,enP,UQ,D5,E.m0,jI]
 refine JA 0 (fun F H => ∃ po pb v3,F 1 = .ptr h.length 0 0∧F 2 = .ptr b2 0 0∧F 3 = .ptr b3 0 0∧F 4 = .ptr b4 0 0∧F 5 = .ptr b5 0 0∧Em h H m b2 b3 b4 b5 (nlV po (zP m)) (.sl .nil 0 []) v3∧NL H0.length H po pb (zP m)∧outG 1 (fun _:Pt=>G7) H0 m.pts v3 H∧(∀ b,NLB po pb (zP m) b→¬ isB v3 b)∧H0.length≤H.length) (fun _ _=>False) ?_ ?_ (fun _ _ hh=>hh.elim)
 ·refine DY (fun n F H => ∃ i po pb v3,n+i=m.pts.length∧F 1 = .ptr h.length 0 0∧F 2 = .ptr b2 0 0∧F 3 = .ptr b3 0 0∧F 4 = .ptr b4 0 0∧F 5 = .ptr b5 0 0∧F 11 = .sl m.pm 6 (m.pts.map F9)∧F 12 = .int .i64 m.pts.length∧F 13 = .int .i64 (i:Nat)∧Em h H m b2 b3 b4 b5 (nlV po ((zP m).take i)) (.sl .nil 0 []) v3∧NL H0.length H po pb ((zP m).take i)∧outG 1 (fun _:Pt=>G7) H0 (m.pts.take i) v3 H∧(∀ b,NLB po pb ((zP m).take i) b→¬ isB v3 b)∧H0.length≤H.length) m.pts.length
   ⟨0,0,[],.sl .nil 0 [],by simp,by simp -implicitDefEqProofs only [AA,↓reduceIte,jC],by simp -implicitDefEqProofs only [AA,↓reduceIte,jC],by simp -implicitDefEqProofs only [AA,↓reduceIte,jC],by simp -implicitDefEqProofs only [AA,↓reduceIte,jC],by simp -implicitDefEqProofs only [AA,↓reduceIte,jC],by simp -implicitDefEqProofs only [AA,↓reduceIte,jC],by simp -implicitDefEqProofs only [AA,↓reduceIte,jC],by simp -implicitDefEqProofs only [AA,↓reduceIte]; rfl,by rw [qO]; exact E,by rw [qO]; exact NL.nil _ _ _,by rw [qO]; exact outG.nil _ _ _ _,fun b _ hb'=>hb',jK _⟩ ?_
  clear E
  rintro n F H ⟨i,po,pb,v3,hi,f1,f2,f3,f4,f5,f11,f12,f13,E,N,ho3,hdis,hle⟩
  simp -implicitDefEqProofs only [DC,jS,jJ,jP,jR,BC,BA,BI,A8,AY,BB,AL,BD,AX,AC,AA,AZ,BQ,AB,C9,↓reduceIte,jA,jB,enP,D5,f12,f13]
  refine CV (fun hc => ?_) (fun hc => ?_)
  ·have hi':i < m.pts.length:=by simpa using hc
   have h64:=(hg.full _ (jO hi')).2
   have hP:=AXT m i hi'
   have hzl:=AEX m.pts[i].bins.length
   have htl:((zP m).take i).length≤1048576:=by rw [qB,AMD]; omega
   simp -implicitDefEqProofs only [DC,jS,jJ,jP,jR,BC,BP,BA,BR,A8,AY,BB,AL,BD,AX,AC,ES,AA,AZ,FO,BX,EI,CG,CB,AB,DT,↓reduceIte,jC,jA,jB,enP,WQ,D5,jT,f11,f13,D7 hi',FP AEV AAY I7 hi',A0X,AX9 _ _ [.str ⟨#[]⟩,.int .i64 0,.int .i64 0,.str ⟨#[]⟩,.sl .nil 0 [],.sl .nil 0 []] rfl]
   have hl1:(H ++ [ABlk.live 6 [F9 m.pts[i]]]).length=H.length+1:=by simp
   have E1:=E.app [.live 6 [F9 m.pts[i]]]
   have N1:=N.app [.live 6 [F9 m.pts[i]]]
   have ho1:=ho3.app [.live 6 [F9 m.pts[i]]]
   have lp:DX Tryz.prog (H ++ [ABlk.live 6 [F9 m.pts[i]]]) 49 (.ptr H.length 0 5)=some (.sl m.pts[i].bm 4 (m.pts[i].bins.map GV)):=by rw [DV AD1,U0]
   generalize H ++ [ABlk.live 6 [F9 m.pts[i]]]=Ha at hl1 E1 N1 ho1 lp ⊢
   have N2:=(N1.app [.live 1 ((zeros m.pts[i].bins.length).map qencI)]).app [.live 1 [[.own Ha.length 0 m.pts[i].bins.length]]]
   have E2:=(E1.app [.live 1 ((zeros m.pts[i].bins.length).map qencI)]).app [.live 1 [[.own Ha.length 0 m.pts[i].bins.length]]]
   have ho2:=(ho1.app [.live 1 ((zeros m.pts[i].bins.length).map qencI)]).app [.live 1 [[.own Ha.length 0 m.pts[i].bins.length]]]
   have gb:=CU (x:=ABlk.live 1 [[.own Ha.length 0 m.pts[i].bins.length]]) (CW Ha (ABlk.live 1 ((zeros m.pts[i].bins.length).map qencI)))
   have gt:=CW (Ha ++ [ABlk.live 1 ((zeros m.pts[i].bins.length).map qencI)]) (ABlk.live 1 [[.own Ha.length 0 m.pts[i].bins.length]])
   have hl2:(Ha ++ [ABlk.live 1 ((zeros m.pts[i].bins.length).map qencI)] ++ [ABlk.live 1 [[.own Ha.length 0 m.pts[i].bins.length]]]).length=Ha.length+2:=by simp
   refine FN (by kernel_rfl) ?_
   simp -implicitDefEqProofs only [G5,FK,FH,DC,jS,jJ,jP,jR,Bool.or_true,EM,D9,EQ,I8,FT,AAB,EX,JM,AA,AZ,EC,BX,PD,BN,D6,GL,CB,AB,↓reduceIte,jC,jQ,jM,jG,jA,enP,XU,KU,AG8,f4,E1.l4,lp,jI,mkI _ _ (show m.pts[i].bins.length≤1048576 by omega),AQI]
   generalize Ha ++ [ABlk.live 1 ((zeros m.pts[i].bins.length).map qencI)] ++ [ABlk.live 1 [[.own Ha.length 0 m.pts[i].bins.length]]]=Hb at N2 E2 ho2 gb gt hl2 ⊢
   generalize (Ha ++ [ABlk.live 1 ((zeros m.pts[i].bins.length).map qencI)]).length=tb at gt ⊢
   obtain ⟨H2,hap,N3,hk,hl3,hx3⟩:=N2.snoc gb (by omega) (by omega) (fun q=>by have:=N.mem_lt q; omega) (fun q e=>by have:=N.top_lt q; omega) (by rw [hzl]; exact gt) htl
   rw [← hP] at N3 hap
   have hne:(zP m).take (i+1)≠[]:=by rw [hP]; simp
   have E3:=E2.keep hk (fun b hb=>by
    obtain ⟨q,rfl⟩:=AGY hb
    have:=N.lo' q; omega) (hx3 h (by omega))
   rw [TG _ hne] at hap
   refine LY hap ?_
   have E4:=E3.set4 (.own Hb.length 0 ((zP m).take (i+1)).length) (.sl .nil 0 [])
   have ho4:=(ho2.keepA hk (fun b hb hb'=>hdis b (AH1 hb') hb)).setB (b:=b4) (by omega) (.live 4 [KO (.own Hb.length 0 ((zP m).take (i+1)).length) (.sl .nil 0 [])])
   have N4:NL H0.length (H2.set b4 (.live 4 [KO (.own Hb.length 0 ((zP m).take (i+1)).length) (.sl .nil 0 [])])) Hb.length (pb ++ [Ha.length]) ((zP m).take (i+1)):=N3.keep fun b x hb hg=>DU hg (by have:=N3.lt hb; omega)
   have hl4:(H2.set b4 (.live 4 [KO (.own Hb.length 0 ((zP m).take (i+1)).length) (.sl .nil 0 [])])).length=H2.length:=by simp
   simp -implicitDefEqProofs only [G5,DC,jS,jJ,jP,jR,EM,D9,OM,FU,EQ,NF,EX,BA,A8,AY,AL,BD,AX,AA,AZ,EI,BN,AB,DT,↓reduceIte,jC,jQ,jM,jG,jA,jB,enP,AG8,D5,jT,f4,E3.s4]
   generalize H2.set b4 (.live 4 [KO (.own Hb.length 0 ((zP m).take (i+1)).length) (.sl .nil 0 [])])=H4 at E4 ho4 N4 hl4 ⊢
   obtain ⟨v3',H5,hap3,ho5,hk3,hl5,hn3,⟨o3',l3,rfl⟩,hx5⟩:=ho4.app2 AX1 AIJ A1Z A0H (by omega) (by rw [qB]; omega) (by omega) m.pts[i]
   rw [← zN hi'] at ho5
   have E5:=E4.keep hk3 (fun b hb=>by have:=ho4.lt hb; omega) (hx5 h (by omega))
   have E6:=E5.set5 (.own o3' 0 l3)
   have ho6:=ho5.setB (b:=b5) (by omega) (.live 1 [[.own o3' 0 l3]])
   have N5:NL H0.length (H5.set b5 (.live 1 [[.own o3' 0 l3]])) Hb.length (pb ++ [Ha.length]) ((zP m).take (i+1)):=N4.keep fun b x hb hg=>DU (hk3 b x hg (fun q=>by
    rw [hP] at hb
    rcases AL6 (o:=po) hb with rfl | hb | rfl
    ·have:=ho3.lt q; omega
    ·exact hdis _ hb q
    ·have:=ho3.lt q; omega)) (by have:=N4.lt hb; omega)
   simp -implicitDefEqProofs only [FK,FH,DC,jS,jJ,jP,jR,AY,AL,BD,AX,AC,AA,AZ,AU,GZ,EC,BX,GL,CB,AB,↓reduceIte,jC,jM,jA,jB,enP,ABC,D5,f5,E4.l5,A57]
   refine LY (v := .own o3' 0 l3) (h:=H5) hap3 ?_
   simp -implicitDefEqProofs only [DC,jS,jJ,jP,jR,BA,A8,EH,ER,AY,BB,AL,BD,AX,AC,ES,AA,AZ,AU,BH,BG,EI,BQ,BN,AB,DT,DK,↓reduceIte,jC,jM,jA,jB,enP,ABC,D5,jT,f5,E5.s5,f13,wrap_succ (show i < 9223372036854775807 by omega)]
   rw [← TG _ hne] at E6
   exact ⟨n - 1,by omega,i+1,Hb.length,_,.own o3' 0 l3,by omega,by trivial,by trivial,by trivial,by trivial,by trivial,by trivial,by trivial,by trivial,E6,N5,ho6,fun b hb hb'=>by
    have h1:=hn3 b hb'
    have h2:=N4.lt hb
    omega,by rw [List.length_set]; omega⟩
  ·have hi' : ¬ i < m.pts.length:=by simpa using hc
   rw [jW (by rw [AMD]; omega)] at N E hdis
   rw [jW (by omega)] at ho3
   simp -implicitDefEqProofs only [DW,EG,NG,EZ,AA,↓reduceIte,jC]
   exact ⟨po,pb,v3,f1,f2,f3,f4,f5,E,N,ho3,hdis,hle⟩
 ·rintro F H ⟨po,pb,v3,f1,f2,f3,f4,f5,E,N,ho3,hdis,hle⟩
  simp -implicitDefEqProofs only [DC,jS,jJ,jP,jR,BC,BP,BA,A8,EY,AY,BB,AL,BD,AX,AC,AA,AZ,AU,BH,BG,BX,BN,D6,AB,↓reduceIte,jG,jA,jB,enP,AEF,L8,D5,f1,E.m1,jI]
  refine JA 2 (fun F H => ∃ co cbs,F 2 = .ptr b2 0 0∧F 3 = .ptr b3 0 0∧F 4 = .ptr b4 0 0∧F 5 = .ptr b5 0 0∧Em h H m b2 b3 b4 b5 (nlV po (zP m)) (nlV co (zC m)) v3∧NC H0.length H po pb co cbs (zP m) (zC m)∧outG 1 (fun _:Pt=>G7) H0 m.pts v3 H) (fun _ _=>False) ?_ ?_ (fun _ _ hh=>hh.elim)
  ·refine DY (fun n F H => ∃ i co cbs,n+i=m.crs.length∧F 1 = .ptr h.length 0 0∧F 2 = .ptr b2 0 0∧F 3 = .ptr b3 0 0∧F 4 = .ptr b4 0 0∧F 5 = .ptr b5 0 0∧F 33 = .sl m.cm 3 (m.crs.map G6)∧F 34 = .int .i64 m.crs.length∧F 35 = .int .i64 (i:Nat)∧Em h H m b2 b3 b4 b5 (nlV po (zP m)) (nlV co ((zC m).take i)) v3∧NL H0.length H po pb (zP m)∧NL H0.length H co cbs ((zC m).take i)∧outG 1 (fun _:Pt=>G7) H0 m.pts v3 H∧(∀ b,NLB co cbs ((zC m).take i) b→¬ NLB po pb (zP m) b∧¬ isB v3 b)∧H0.length≤H.length) m.crs.length
    ⟨0,0,[],by simp,by simp -implicitDefEqProofs only [AA,↓reduceIte,jC,f1],by simp -implicitDefEqProofs only [AA,↓reduceIte,jC,f2],by simp -implicitDefEqProofs only [AA,↓reduceIte,jC,f3],by simp -implicitDefEqProofs only [AA,↓reduceIte,jC,f4],by simp -implicitDefEqProofs only [AA,↓reduceIte,jC,f5],by simp -implicitDefEqProofs only [AA,↓reduceIte,jC],by simp -implicitDefEqProofs only [AA,↓reduceIte,jC],by simp -implicitDefEqProofs only [AA,↓reduceIte]; rfl,by rw [qO]; exact E,N,by rw [qO]; exact NL.nil _ _ _,ho3,(fun b hb=>by
     rcases hb with ⟨q,_⟩ | q
     ·exact absurd rfl q
     ·cases q),hle⟩ ?_
   clear f1 f2 f3 f4 f5 E N ho3 hdis hle
   rintro n F H ⟨i,co,cbs,hi,f1,f2,f3,f4,f5,f33,f34,f35,E,NP,N,ho3,hdis,hle⟩
   simp -implicitDefEqProofs only [DC,jS,jJ,jP,jR,BC,BA,BI,A8,AY,BB,AL,BD,AX,AC,AA,AZ,BQ,AB,C9,↓reduceIte,jA,jB,enP,D5,f34,f35]
   refine CV (fun hc => ?_) (fun hc => ?_)
   ·have hi':i < m.crs.length:=by simpa using hc
    have hcg:=hg.crs _ (jO hi')
    have hfs:=hg.full.szs hcg.here
    have hsl:=QR m m.crs[i].pts
    have hfour:=hcg.four
    have hpr:=hcg.prod
    have hC:=AXU m i hi'
    have hzl:=AEX (JO (szs m m.crs[i].pts))
    have htl:((zC m).take i).length≤1048576:=by rw [qB,AME]; omega
    simp -implicitDefEqProofs only [DC,jS,jJ,jP,jR,BC,BP,BA,BR,A8,AY,BB,AL,BD,AX,AC,ES,AA,AZ,FO,BX,EI,CG,CB,AB,DT,↓reduceIte,jC,jA,jB,enP,XZ,D5,jT,f33,f35,D7 hi',FP AOH AGH MH hi',A0W,AX7 _ _ [.str ⟨#[]⟩,.sl .nil 0 [],.sl .nil 0 []] rfl]
    have hl1:(H ++ [ABlk.live 3 [G6 m.crs[i]]]).length=H.length+1:=by simp
    have E1:=E.app [.live 3 [G6 m.crs[i]]]
    have N1:=N.app [.live 3 [G6 m.crs[i]]]
    have NP1:=NP.app [.live 3 [G6 m.crs[i]]]
    have ho1:=ho3.app [.live 3 [G6 m.crs[i]]]
    have gc1:=CW H (.live 3 [G6 m.crs[i]])
    generalize H ++ [ABlk.live 3 [G6 m.crs[i]]]=Ha at hl1 E1 N1 NP1 ho1 gc1 ⊢
    generalize hpn:JO (szs m m.crs[i].pts)=pn at hC hzl hpr
    have N2:=(N1.app [.live 1 ((zeros pn).map qencI)]).app [.live 1 [[.own Ha.length 0 pn]]]
    have NP2:=(NP1.app [.live 1 ((zeros pn).map qencI)]).app [.live 1 [[.own Ha.length 0 pn]]]
    have E2:=(E1.app [.live 1 ((zeros pn).map qencI)]).app [.live 1 [[.own Ha.length 0 pn]]]
    have ho2:=(ho1.app [.live 1 ((zeros pn).map qencI)]).app [.live 1 [[.own Ha.length 0 pn]]]
    have gb:=CU (x:=ABlk.live 1 [[.own Ha.length 0 pn]]) (CW Ha (ABlk.live 1 ((zeros pn).map qencI)))
    have gt:=CW (Ha ++ [ABlk.live 1 ((zeros pn).map qencI)]) (ABlk.live 1 [[.own Ha.length 0 pn]])
    have hl2:(Ha ++ [ABlk.live 1 ((zeros pn).map qencI)] ++ [ABlk.live 1 [[.own Ha.length 0 pn]]]).length=Ha.length+2:=by simp
    refine FN (by kernel_rfl) ?_
    simp -implicitDefEqProofs only [G5,DC,jS,jJ,jP,jR,Bool.or_true,EM,D9,EQ,FT,AAB,EX,H6,GN,AA,AZ,BU,BX,PD,BN,AB,jE,jD,jF,↓reduceIte,jC,jQ,jG,jA,enP,AC6,f1,f4,E1.l4',ldM E1.gm,ldC gc1]
    refine ⟨_,WB G m _ _ hcg.here (by omega),?_⟩
    try simp -implicitDefEqProofs only []
    refine ⟨_,XL G _ _ _ (fun n hn=>(hfs n hn).2) (by omega),?_⟩
    rw [hpn]
    try simp -implicitDefEqProofs only [G5,FK,FH,DC,jS,jJ,jP,jR,Bool.or_true,EM,D9,EQ,I8,JM,AA,AZ,EC,GL,CB,↓reduceIte,jC,jQ,jA,enP,mkI _ _ (show pn≤1048576 by omega),AQI]
    generalize Ha ++ [ABlk.live 1 ((zeros pn).map qencI)] ++ [ABlk.live 1 [[.own Ha.length 0 pn]]]=Hb at N2 NP2 E2 ho2 gb gt hl2 ⊢
    generalize (Ha ++ [ABlk.live 1 ((zeros pn).map qencI)]).length=tb at gt ⊢
    obtain ⟨H2,hap,N3,hk,hl3,hx3⟩:=N2.snoc gb (by omega) (by omega) (fun q=>by have:=N.mem_lt q; omega) (fun q e=>by have:=N.top_lt q; omega) (by rw [hzl]; exact gt) htl
    rw [← hC] at N3 hap
    have hne:(zC m).take (i+1)≠[]:=by rw [hC]; simp
    have E3:=E2.keep hk (fun b hb=>by
     obtain ⟨q,rfl⟩:=AGY hb
     have:=N.lo' q; omega) (hx3 h (by omega))
    rw [TG _ hne] at hap
    refine LY hap ?_
    have E4:=E3.set4 (nlV po (zP m)) (.own Hb.length 0 ((zC m).take (i+1)).length)
    have ho4:=(ho2.keepA hk (fun b hb hb'=>(hdis b (AH1 hb')).2 hb)).setB (b:=b4) (by omega) (.live 4 [KO (nlV po (zP m)) (.own Hb.length 0 ((zC m).take (i+1)).length)])
    have N4:NL H0.length (H2.set b4 (.live 4 [KO (nlV po (zP m)) (.own Hb.length 0 ((zC m).take (i+1)).length)])) Hb.length (cbs ++ [Ha.length]) ((zC m).take (i+1)):=N3.keep fun b x hb hg=>DU hg (by have:=N3.lt hb; omega)
    have NP4:NL H0.length (H2.set b4 (.live 4 [KO (nlV po (zP m)) (.own Hb.length 0 ((zC m).take (i+1)).length)])) po pb (zP m):=NP2.keep fun b x hb hg=>DU (hk b x hg (fun q=>(hdis b (AH1 q)).1 hb)) (by have:=NP.lt hb; omega)
    simp -implicitDefEqProofs only [G5,DC,jS,jJ,jP,jR,EM,D9,OM,FU,EQ,NF,EX,BA,A8,EH,ER,AY,BB,AL,BD,AX,AC,AA,AZ,AU,BH,BG,EI,BQ,BN,AB,DT,DK,↓reduceIte,jC,jQ,jG,jA,jB,enP,AC6,D5,jT,f4,E3.s4',f35,wrap_succ (show i < 9223372036854775807 by omega)]
    have hl4:(H2.set b4 (.live 4 [KO (nlV po (zP m)) (.own Hb.length 0 ((zC m).take (i+1)).length)])).length=H2.length:=by simp
    generalize H2.set b4 (.live 4 [KO (nlV po (zP m)) (.own Hb.length 0 ((zC m).take (i+1)).length)])=H4 at E4 ho4 N4 NP4 hl4 ⊢
    rw [← TG Hb.length hne] at E4
    exact ⟨n - 1,by omega,i+1,Hb.length,_,by omega,by trivial,by trivial,by trivial,by trivial,by trivial,by trivial,by trivial,by trivial,E4,NP4,N4,ho4,fun b hb=>by
     rw [hC] at hb
     rcases AL6 (o:=co) hb with rfl | hb | rfl
     ·exact ⟨fun q=>by have:=NP.lt q; omega,fun q=>by have:=ho3.lt q; omega⟩
     ·exact hdis _ hb
     ·exact ⟨fun q=>by have:=NP.lt q; omega,fun q=>by have:=ho3.lt q; omega⟩,by omega⟩
   ·have hi' : ¬ i < m.crs.length:=by simpa using hc
    rw [jW (by rw [AME]; omega)] at N E hdis
    simp -implicitDefEqProofs only [DW,EG,NG,EZ,AA,↓reduceIte,jC]
    exact ⟨co,cbs,f2,f3,f4,f5,E,⟨NP,N,fun b h1 h2=>(hdis b h2).1 h1⟩,ho3⟩
  ·rintro F' H' ⟨co,cbs,g2,g3,g4,g5,E',N,q3⟩
   simp -implicitDefEqProofs only [BC,A8,EY,↓reduceIte]
   have p2:=E'.o2; have p3:=E'.o3; have p4:=E'.o4; have p5:=E'.o5
   refine AF1 [(5,2)] (by kernel_rfl) ?_ ?_
   ·simp -implicitDefEqProofs only [g2,g5,AF9,AL2,AIV,and_true]
    omega
   simp -implicitDefEqProofs only [G5,DC,jS,jJ,jP,jR,EM,D9,OM,FU,EQ,FT,NF,BJ,A8,AA,AZ,BX,EI,AB,DT,↓reduceIte,jC,jQ,jG,jA,enP,jT,g2,g3,g4,g5,PT E'.g4 rfl,XY E'.g5 rfl,ATW E'.g2 rfl (OG _ _) (OG _ _),ATU (DU E'.g3 (show b3≠b2 by omega)) rfl q3.leaf]
   rw [A27 (ba:=b2) (bb:=b3) (by simp -implicitDefEqProofs only [AA,↓reduceIte,jC,g2]) (by simp -implicitDefEqProofs only [AA,↓reduceIte,jC,g3]) (PT (DU (EJ E'.g2) (show b2≠b3 by omega)) rfl) (XY (EJ (DU E'.g3 (show b3≠b2 by omega))) rfl)]
   exact ⟨(E'.hx.set (by omega) _).set (by omega) _,po,pb,co,cbs,v3,rfl,(N.keep (H':=(H'.set b2 (.live 4 [KO (nlV po (zP m)) (nlV co (zC m))])).set b3 (.live 1 [[v3]])) fun b x hb _ hg=>DU (DU hg (by omega)) (by omega)).base (by omega),((q3.setB (b:=b2) (by omega) _).setB (b:=b3) (by omega) _).base (by omega)⟩
theorem A2U (H0:Hp) {v1 v2 v3:AV} (h1:v1.leaf=true) (h2:v2.leaf=true) (h3:v3.leaf=true) :
  FB Tryz.prog (H0 ++ [ABlk.live 4 [IC]] ++ [ABlk.live 1 [G7]]) 81 (.ptr H0.length 0 0) (.agg (KO v1 v2))=some ((H0 ++ [ABlk.live 4 [IC]] ++ [ABlk.live 1 [G7]]).set H0.length (ABlk.live 4 [KO v1 v2])) ∧
  FB Tryz.prog ((H0 ++ [ABlk.live 4 [IC]] ++ [ABlk.live 1 [G7]]).set H0.length (ABlk.live 4 [KO v1 v2])) 120 (.ptr (H0 ++ [ABlk.live 4 [IC]]).length 0 0) (.agg [v3])=some (((H0 ++ [ABlk.live 4 [IC]] ++ [ABlk.live 1 [G7]]).set H0.length (ABlk.live 4 [KO v1 v2])).set (H0 ++ [ABlk.live 4 [IC]]).length (ABlk.live 1 [[v3]])) ∧
  (((H0 ++ [ABlk.live 4 [IC]] ++ [ABlk.live 1 [G7]]).set H0.length (ABlk.live 4 [KO v1 v2])).set (H0 ++ [ABlk.live 4 [IC]]).length (ABlk.live 1 [[v3]]))[H0.length]? = some (ABlk.live 4 [KO v1 v2]) ∧
  (((H0 ++ [ABlk.live 4 [IC]] ++ [ABlk.live 1 [G7]]).set H0.length (ABlk.live 4 [KO v1 v2])).set (H0 ++ [ABlk.live 4 [IC]]).length (ABlk.live 1 [[v3]]))[(H0 ++ [ABlk.live 4 [IC]]).length]? = some (ABlk.live 1 [[v3]]) ∧
  ext H0 (((H0 ++ [ABlk.live 4 [IC]] ++ [ABlk.live 1 [G7]]).set H0.length (ABlk.live 4 [KO v1 v2])).set (H0 ++ [ABlk.live 4 [IC]]).length (ABlk.live 1 [[v3]])) :=
 ⟨ATW (CU (CW _ _)) rfl h1 h2,ATU (DU (CW _ _) (by simp)) rfl h3,DU (EJ (CU (CW _ _))) (by simp),EJ (DU (CW _ _) (by simp)),((((ext.rfl' H0).app _).app _).set (jK _) _).set (by simp) _⟩
theorem NC.ext {n0:Nat} {H H':Hp} {po:Nat} {pb:List Nat} {co:Nat} {cbs:List Nat} {P C:List (List Int)} (N:NC n0 H po pb co cbs P C) (hx:Sm.ext H H'):NC n0 H' po pb co cbs P C:=N.keep fun _ _ _ _ hg=>E8 hx hg
theorem outG.ext {α:Type} {k:Nat} {f:α→List AV} {h H H':Hp} {ys:List α} {v:AV} (ho:outG k f h ys v H) (hx:Sm.ext H H'):outG k f h ys v H':=by
 obtain ⟨y,rfl⟩:=hx
 exact ho.app y
def EmQ (h:Hp) (m:Mo) (v:AV) (H:Hp):Prop:=ext h H∧((IA m≠0∧v = .tup [.agg IC,.agg G7,.int .i64 (IA m)]) ∨
 (IA m=0∧∃ po pb co cbs v3,v = .tup [.agg (KO (nlV po (zP m)) (nlV co (zC m))),.agg [v3],.int .i64 0]∧EmO h H m po pb co cbs v3))
set_option maxHeartbeats 1000000 in
theorem AS7 (G:Nat→AV) (hG:GOk G) (m:Mo) (hm:MoOk m) (h:Hp):ACalls (En G) 75 [.agg (EE m)] h (EmQ h m):=by
 refine acN Tryz.func75 rfl ?_
 show awp _ _ _ _ _ (D8 _ [.cell 2 81,.cell 3 120,.tmp 4] _)
 unfold EmQ
 have E:=Ee.mk' h m
 simp -implicitDefEqProofs only [BC,BA,A8,AY,BB,AO,AQ,AL,BD,AX,AC,AA,AZ,AU,BH,A7,FO,FM,BX,CB,BF,↓reduceIte,jC,jA,jB,enP,bxM,AD0,AXB]
 generalize h ++ [ABlk.live 2 [EE m]] ++ [ABlk.live 4 [IC]] ++ [ABlk.live 1 [G7]]=H0 at E ⊢
 generalize (h ++ [ABlk.live 2 [EE m]] ++ [ABlk.live 4 [IC]]).length=b3 at E ⊢
 generalize (h ++ [ABlk.live 2 [EE m]]).length=b2 at E ⊢
 have o2:=E.o2; have o3:=E.o3; have hlt:=E.lt
 simp -implicitDefEqProofs only [AY,AO,AQ,AL,BD,AX,AC,AA,AZ,BU,BZ,BO,AB,jE,jD,jF,↓reduceIte,jA,jB,ldM E.gm]
 refine (ACC G hG m hm _).use ?_
 cases hb:(IA m == 0)
 ·have h0:IA m≠0:=by simpa using hb
  simp -implicitDefEqProofs only [FK,BC,BA,BJ,BI,A8,CQ,CZ,AY,BB,AO,AQ,AL,BD,AX,AC,ES,AA,AZ,AU,BH,BG,A7,KY,EI,BQ,AB,DT,ET,↓reduceIte,jC,jA,jB,enP,jT,bne,hb,AWX,A6I,stZ E.g2 rfl,A34 (DU E.g3 (show b3≠b2 by omega)) rfl]
  rw [AP8 (ba:=b2) (bb:=b3) (by simp -implicitDefEqProofs only [AA,↓reduceIte,jC]) (by simp -implicitDefEqProofs only [AA,↓reduceIte,jC]) (PT (DU (EJ E.g2) (show b2≠b3 by omega)) rfl) (XY (EJ (DU E.g3 (show b3≠b2 by omega))) rfl)]
  exact ⟨(E.hx.set (by omega) _).set (by omega) _,.inl ⟨h0,by simp -implicitDefEqProofs only [AA,↓reduceIte]⟩⟩
 ·have h0:IA m=0:=by simpa using hb
  have hg:=X6 h0
  simp -implicitDefEqProofs only [BC,BA,BR,BI,A8,DI,AY,BB,AO,AQ,AL,BD,AX,AC,AA,AZ,AU,BU,BH,BG,A7,BX,BQ,BZ,BO,AB,ET,jE,jD,jF,↓reduceIte,jC,jA,jV,jB,enP,bne,hb,ldM E.gm]
  refine (ASL G m hm hg _).mono ?_
  rintro v H1 ⟨hx1,po,pb,co,cbs,v3,rfl,EO⟩
  obtain ⟨s1,s2,g6,g7,hx5⟩:=A2U H1 (OG po (zP m)) (OG co (zC m)) EO.o3.leaf
  have g2:=E8 hx5 (E8 hx1 E.g2)
  have g3:=E8 hx5 (E8 hx1 E.g3)
  have hx:=(E.hx.trans hx1).trans hx5
  have hle1:=hx1.le
  have h7:b2 < (H1 ++ [ABlk.live 4 [IC]]).length:=by simp; omega
  have N5:=EO.nc.ext hx5
  have q5:=outG.ext EO.o3 hx5
  simp -implicitDefEqProofs only [zH,zL,BC,A8,AY,BB,AO,AQ,AL,BD,AX,AC,ES,AA,AZ,BG,FO,EI,EW,GG,CB,AB,DT,↓reduceIte,jC,jA,jB,enP,jT,AD0,AXB,s1,s2]
  generalize ((H1 ++ [ABlk.live 4 [IC]] ++ [ABlk.live 1 [G7]]).set H1.length (ABlk.live 4 [KO (nlV po (zP m)) (nlV co (zC m))])).set (H1 ++ [ABlk.live 4 [IC]]).length (ABlk.live 1 [[v3]])=H5 at g6 g7 g2 g3 hx N5 q5 ⊢
  generalize (H1 ++ [ABlk.live 4 [IC]]).length=b7 at g7 h7 ⊢
  refine AF1 [(7,2)] (by kernel_rfl) ?_ ?_
  ·simp -implicitDefEqProofs only [AA,↓reduceIte,jC,AF9,AL2,AIV,and_true]
   omega
  simp -implicitDefEqProofs only [G5,EM,D9,OM,FU,EQ,JI,FT,NF,BJ,A8,AO,AA,AZ,AU,BH,BX,EI,AB,DT,↓reduceIte,jC,jQ,jG,jA,enP,jT,PT g6 rfl,XY g7 rfl,ATW g2 rfl (OG po (zP m)) (OG co (zC m)),ATU (DU g3 (show b3≠b2 by omega)) rfl q5.leaf]
  rw [AP8 (ba:=b2) (bb:=b3) (by simp -implicitDefEqProofs only [AA,↓reduceIte,jC]) (by simp -implicitDefEqProofs only [AA,↓reduceIte,jC]) (PT (DU (EJ g2) (show b2≠b3 by omega)) rfl) (XY (EJ (DU g3 (show b3≠b2 by omega))) rfl)]
  have hhl:=E.hx.le
  refine ⟨(hx.set (by omega) _).set (by omega) _,.inr ⟨h0,po,pb,co,cbs,v3,by simp -implicitDefEqProofs only [AA,↓reduceIte],?_,?_⟩⟩
  ·exact (N5.keep (H':=(H5.set b2 (.live 4 [KO (nlV po (zP m)) (nlV co (zC m))])).set b3 (.live 1 [[v3]])) fun b x hb _ hg=>DU (DU hg (by omega)) (by omega)).base hhl
  ·exact ((q5.setB (b:=b2) (by omega) _).setB (b:=b3) (by omega) _).base hhl
structure St where
 P:List (List Int)
 C:List (List Int)
 sam:Int
 ill:Int
 ls:List (List Int)
def V9 (m:Mo) (s:St) (env:List Sg):Int:=L6 PtR.err (N8 m s.ls env)
def stp (m:Mo) (s:St) (env:List Sg):St:=⟨PQ (N8 m s.ls env) s.P,RY m ((N8 m s.ls env).map PtR.hit) s.C,rz s.sam,if (N8 m s.ls env).any PtR.bad=true then rz s.ill else s.ill,(N8 m s.ls env).map PtR.next⟩
structure StOk (m:Mo) (s:St):Prop where
 sh:ShapeOk m s.P s.C
 ll:s.ls.length=m.pts.length
 l7 : ∀ l∈s.ls,l.length≤7
 sm:0≤s.sam∧s.sam≤1099511627776
 il:0≤s.ill∧s.ill≤1099511627776
theorem AT5 (p:Pt) (last:List Int) (l:List Sg):(ptE p last l).next.length≤7:=by
 have hn : ∀ v,(nextL last v).length≤7:=fun v=>by unfold nextL; rw [List.length_drop,zZ]; simp; omega
 unfold ptE
 split
 ·simp
 ·split
  ·simp
  ·split
   ·exact hn _
   ·split
    ·exact hn _
    ·exact hn _
theorem ShapeOk.step {m:Mo} {P C:List (List Int)} (h:ShapeOk m P C) {rs:List PtR} (hr:rs.length=m.pts.length) (hits:List (List Nat)):ShapeOk m (PQ rs P) (RY m hits C):=by
 have h1:rs.length=P.length:=by rw [hr,h.pl]
 have h2:=h.cl
 have l1:=UE rs P h1
 have l2:=UG m hits C h2
 refine ⟨by rw [l1]; exact h.pl,by rw [l2]; exact h2,fun i a b => ?_,fun i a b => ?_,AYC h.wp,AYD h.wc⟩
 ·rw [UF rs P i (by omega) (by omega),QA]; exact h.pe i (by omega) b
 ·rw [UH m hits C i b (by omega),rowC_len]; exact h.ce i (by omega) b
theorem StOk.step {m:Mo} {s:St} (h:StOk m s) (env:List Sg):StOk m (stp m s env):=by
 have hr:=UM m s.ls env h.ll
 refine ⟨h.sh.step hr _,by simp [stp,hr],fun l hl => ?_,APD h.sm,?_⟩
 ·obtain ⟨r,hr,rfl⟩:=zJ.1 hl
  obtain ⟨p,hp,rfl⟩:=zJ.1 hr
  exact AT5 _ _ _
 ·unfold stp
  dsimp only
  split
  ·exact APD h.il
  ·exact h.il
def zS (m:Mo):St:=⟨zP m,zC m,0,0,jY m.pts.length []⟩
theorem AH3 (n:Nat):Wn (zeros n):=fun x hx=>by
 have:x=0:=by simpa [zeros] using (List.eq_of_mem_replicate hx)
 subst this; decide
theorem A09 (m:Mo):StOk m (zS m):=by
 refine ⟨⟨AMD m,AME m,fun i a b => ?_,fun i a b => ?_,fun xs hx => ?_,fun xs hx => ?_⟩,by simp [zS],fun l hl => ?_,⟨by show (0:Int)≤0; omega,by show (0:Int)≤1099511627776; omega⟩,⟨by show (0:Int)≤0; omega,by show (0:Int)≤1099511627776; omega⟩⟩
 ·simp [zS,zP,zeros]
 ·simp [zS,zC,zeros]
 ·obtain ⟨p,_,rfl⟩:=zJ.1 hx
  exact AH3 _
 ·obtain ⟨p,_,rfl⟩:=zJ.1 hx
  exact AH3 _
 ·rw [List.eq_of_mem_replicate hl]; simp
def P9 (m:Mo):St→List (List Sg)→Int × St
 | s,[]=>(0,s)
 | s,e :: r=>if V9 m s e≠0 then (V9 m s e,s) else P9 m (stp m s e) r
def N7 (m:Mo) (l:List (List Sg)):Int:=if IA m=0 then (P9 m (zS m) l).1 else IA m
def N9 (P:List (List Int)):List Is:=P.map fun x=>⟨.any,x⟩
def cvS (s:St):Cvr:=⟨nm (N9 s.P),N9 s.P,nm (N9 s.C),N9 s.C,s.sam,s.ill⟩
def OX (m:Mo) (l:List (List Sg)):Cvr:=if IA m=0∧(P9 m (zS m) l).1=0 then cvS (P9 m (zS m) l).2 else zV
def cvW (s:St):List AV := [fzG 1 encL (N9 s.P),fzG 1 encL (N9 s.C),.int .i64 s.sam,.int .i64 s.ill]
theorem A3A (s:St):CvR (.agg (cvW s)) (.agg (encV (cvS s))):=CvR.agg (CvRL.cons ACS (CvRL.cons ACS (CvRL.refl _)))
def AMO (m:Mo) (l:List (List Sg)):List AV:=if IA m=0∧(P9 m (zS m) l).1=0 then cvW (P9 m (zS m) l).2 else IC
theorem AYG (m:Mo) (l:List (List Sg)):CvR (.agg (AMO m l)) (.agg (encV (OX m l))):=by
 unfold AMO OX
 split
 ·exact A3A _
 ·exact A3S
structure Ss where
 m:SM
 l:List Sg
def OV (x:Ss):List AV := [.sl x.m 2 (x.l.map GI)]
theorem ANR (x:Ss):(OV x)[0]? = some (.sl x.m 2 (x.l.map GI)):=rfl
theorem ANQ {h H:Hp} (_:h.length≤H.length) (hg : ∀ (b:Nat) (x:ABlk),h[b]? = some x→H[b]? = some x):ext h H:=⟨H.drop h.length,by
 refine List.ext_getElem? fun i => ?_
 rcases Nat.lt_or_ge i h.length with hi | hi
 ·rw [List.getElem?_append_left hi,jL hi]; exact hg i _ (jL hi)
 ·rw [List.getElem?_append_right hi,List.getElem?_drop]; congr 1; omega⟩
theorem Fr1.ext {h0 h H:Hp} {cb tb:Nat} {pb cbs:List Nat} (hf:Fr1 h H cb tb pb cbs) (hx:Sm.ext h0 h) (h1:h0.length≤cb) (h2:h0.length≤tb) (h3 : ∀ b∈pb,h0.length≤b) (h4 : ∀ b∈cbs,h0.length≤b):Sm.ext h0 H :=
 ANQ (qJ hx.le hf.le) fun b x hb=>by
  have hlt:=CE hb
  exact hf.get b x (E8 hx hb) (by omega) (by omega) (fun q=>by have:=h3 b q; omega) (fun q=>by have:=h4 b q; omega)
theorem AWC (po:Nat) (P:List (List Int)) (co:Nat) (C:List (List Int)) (a b:Int):(cvR po P co C a b).all AV.leaf=true:=by
 simp [cvR,OG]; exact ⟨rfl,rfl⟩
theorem A38 {H:Hp} {b:Nat} {row:List AV} {po:Nat} {P:List (List Int)} {co:Nat} {C:List (List Int)} {x y:Int} (hb:H[b]? = some (.live 4 [row])) (hr:row.length=4):FB Tryz.prog H 81 (.ptr b 0 0) (.agg (cvR po P co C x y))=some (H.set b (.live 4 [cvR po P co C x y])):=by
 rw [NQ (cs:=cvR po P co C x y) (PN (AWC _ _ _ _ _ _)) ATO hb (by rw [hr]; exact jK 4)]
 have:splice row 0 (cvR po P co C x y)=cvR po P co C x y:=by unfold splice; rw [qO,zG (by rw [hr]; exact jK 4)]; simp
 rw [this]
theorem A3D {n0:Nat} {H:Hp} {po co:Nat} {pb cbs:List Nat} (s:St) (np:NL n0 H po pb s.P) (nc:NL n0 H co cbs s.C) (n d:Nat) (hn:n≤n0):IG n H (d+4) (.agg (cvR po s.P co s.C s.sam s.ill)) = .agg (cvW s):=by
 show AV.agg [IG n H (d+3) (nlV po s.P),IG n H (d+3) (nlV co s.C),.int .i64 s.sam,.int .i64 s.ill]=_
 rw [np.frz n d hn,nc.frz n d hn]; rfl
theorem ATM {h H:Hp} {m:Mo} {v3:AV} (o:outG 1 (fun _:Pt=>G7) h m.pts v3 H):TLs H v3 (jY m.pts.length []):=by
 rcases o with ⟨e,_⟩ | ⟨_,q,_,rfl,hq⟩
 ·rw [e]; exact .inl rfl
 ·refine .inr (.inr ⟨q,m.pts.map fun _=>G7,by simp,hq,?_⟩)
  rw [List.map_const']
  exact RowsL.nils _
set_option maxHeartbeats 4000000 in
theorem AXI (G:Nat→AV) (hG:GOk G) (hT:Q8 G) (m:Mo) (hm:MoOk m) (l:List Ss) (s:SM) (h:Hp) (hl:l.length≤1048576) (he : ∀ x∈l,x.l.length≤1048576) :
  PCall (En G) 43 [.agg (EE m),.sl s 1 (l.map OV)] h (.tup [.agg (encV (OX m (l.map Ss.l))),.int .i64 (N7 m (l.map Ss.l))]):=by
 refine PCall.res (r := .tup [.agg (AMO m (l.map Ss.l)),.int .i64 (N7 m (l.map Ss.l))]) ?_ (CvR.tup (CvRL.cons (AYG _ _) (CvRL.refl _)))
 refine ACalls.pure (R:=fun v H=>ext h H∧IG h.length H 5 v = .tup [.agg (AMO m (l.map Ss.l)),.int .i64 (N7 m (l.map Ss.l))]) 5 ?_ (fun v H ⟨a,b⟩=>⟨a,b⟩)
 refine acN Tryz.func43 rfl ?_
 show awp _ _ _ _ _ (D8 _ [.cell 4 81,.tmp 5] _)
 have gm:=CU (x:=ABlk.live 4 [IC]) (CW h (ABlk.live 2 [EE m]))
 have g4:=CW (h ++ [ABlk.live 2 [EE m]]) (ABlk.live 4 [IC])
 have hx:ext h (h ++ [ABlk.live 2 [EE m]] ++ [ABlk.live 4 [IC]]):=((ext.rfl' h).app _).app _
 have hb4:h.length < (h ++ [ABlk.live 2 [EE m]]).length:=by simp
 simp -implicitDefEqProofs only [BC,BA,A8,AY,BB,AO,AQ,AL,BD,AX,AC,AA,AZ,AU,BH,A7,FO,FM,BX,CB,BF,↓reduceIte,jC,jA,jB,enP,bxM,AD0]
 generalize h ++ [ABlk.live 2 [EE m]] ++ [ABlk.live 4 [IC]]=H0 at gm g4 hx ⊢
 generalize (h ++ [ABlk.live 2 [EE m]]).length=b4 at g4 hb4 ⊢
 have hlt:=CE g4
 simp -implicitDefEqProofs only [AY,AO,AQ,AL,BD,AX,AC,AA,AZ,BU,BZ,BO,AB,jE,jD,jF,↓reduceIte,jA,jB,ldM gm]
 refine (AS7 G hG m hm H0).mono ?_
 rintro v H1 ⟨hx1,⟨hne,rfl⟩ | ⟨h0,po,pb,co,cbs,v3,rfl,EO⟩⟩
 ·have hb:(IA m == 0)=false:=by simpa using hne
  obtain ⟨s1,s2,g6,g7,hx5⟩:=A2U H1 (v1 := .sl .nil 0 []) (v2 := .sl .nil 0 []) (v3 := .sl .nil 0 []) rfl rfl rfl
  have s1':FB Tryz.prog (H1 ++ [ABlk.live 4 [IC]] ++ [ABlk.live 1 [G7]]) 81 (.ptr H1.length 0 0) (.agg IC)=_:=s1
  have s2':FB Tryz.prog ((H1 ++ [ABlk.live 4 [IC]] ++ [ABlk.live 1 [G7]]).set H1.length (ABlk.live 4 [KO (.sl .nil 0 []) (.sl .nil 0 [])])) 120 (.ptr (H1 ++ [ABlk.live 4 [IC]]).length 0 0) (.agg G7)=_:=s2
  have g4':=E8 hx5 (E8 hx1 g4)
  have hx':=(hx.trans hx1).trans hx5
  simp -implicitDefEqProofs only [zH,zL,FK,BC,BA,BI,A8,CZ,AY,BB,AO,AQ,AL,BD,AX,AC,ES,AA,AZ,AU,BH,BG,A7,FO,KY,EI,BQ,EW,GG,CB,AB,DT,ET,↓reduceIte,jC,jA,jB,enP,jT,AD0,AXB,s1',s2',bne,hb,AWX]
  generalize ((H1 ++ [ABlk.live 4 [IC]] ++ [ABlk.live 1 [G7]]).set H1.length (ABlk.live 4 [KO (.sl .nil 0 []) (.sl .nil 0 [])])).set (H1 ++ [ABlk.live 4 [IC]]).length (ABlk.live 1 [[.sl .nil 0 []]])=H5 at g4' hx' ⊢
  simp -implicitDefEqProofs only [BJ,A8,CQ,AY,BB,AO,AQ,AL,BD,AX,AC,ES,AA,AZ,A7,DT,↓reduceIte,jA,jB,stZ g4' rfl]
  rw [AHE (ba:=b4) (by simp -implicitDefEqProofs only [AA,↓reduceIte,jC]) (PT (EJ g4') rfl)]
  refine ⟨hx'.set (by omega) _,?_⟩
  unfold AMO N7
  rw [if_neg (fun q=>hne q.1),if_neg hne]
  rfl
 have hg:=X6 h0
 have hnp:m.pts.length≤16:=by have:=hg.num; omega
 obtain ⟨s1,s2,g6,g7,hx5⟩:=A2U H1 (OG po (zP m)) (OG co (zC m)) EO.o3.leaf
 have gm5:=E8 hx5 (E8 hx1 gm)
 have g45:=E8 hx5 (E8 hx1 g4)
 have hx':=(hx.trans hx1).trans hx5
 have hle1:=hx1.le
 have N5:=EO.nc.ext hx5
 have q5:=ATM (outG.ext EO.o3 hx5)
 have hlb : ∀ b,NLB po pb (zP m) b∨NLB co cbs (zC m) b→b < H1.length:=fun b hb=>by
  rcases hb with hb | hb
  ·exact (EO.nc.np.lt hb).2
  ·exact (EO.nc.nc.lt hb).2
 have htl:(H1 ++ [ABlk.live 4 [IC]]).length=H1.length+1:=by simp
 simp -implicitDefEqProofs only [zH,zL,BC,BP,BA,BR,BI,A8,DI,AY,BB,AO,AQ,AL,BD,AX,AC,ES,AA,AZ,AU,BH,BG,A7,FO,EI,BQ,EW,GG,D6,CB,AB,DT,ET,BF,BL,↓reduceIte,jC,jA,jV,jB,enP,AJZ,jT,AD0,AXB,s1,s2,bne,beq_self_eq_true,jI]
 generalize ((H1 ++ [ABlk.live 4 [IC]] ++ [ABlk.live 1 [G7]]).set H1.length (ABlk.live 4 [KO (nlV po (zP m)) (nlV co (zC m))])).set (H1 ++ [ABlk.live 4 [IC]]).length (ABlk.live 1 [[v3]])=H5 at g6 g7 gm5 g45 hx' N5 q5 ⊢
 generalize (H1 ++ [ABlk.live 4 [IC]]).length=tb at g7 htl ⊢
 generalize H1.length=cb at g6 hlb htl hle1 ⊢
 have S5:CS H0.length H5 cb tb po co pb cbs (zS m).P (zS m).C (zS m).sam (zS m).ill v3:=N5.cs g6 g7 (by omega) (fun b hb=>by have:=hlb b hb; omega)
 refine DY (fun n F H => ∃ k st v3,n+k=l.length∧F 2 = .ptr h.length 0 0∧F 4 = .ptr b4 0 0∧F 6 = .ptr cb 0 0∧F 7 = .ptr tb 0 0∧F 22 = .sl s 1 (l.map OV)∧F 23 = .int .i64 (l.length:Nat)∧F 24 = .int .i64 (k:Nat)∧H[h.length]? = some (.live 2 [EE m])∧H[b4]? = some (.live 4 [IC]) ∧
   CS H0.length H cb tb po co pb cbs st.P st.C st.sam st.ill v3∧TLs H v3 st.ls∧StOk m st∧ext h H∧P9 m (zS m) (l.map Ss.l)=P9 m st ((l.drop k).map Ss.l)) l.length
  ⟨0,zS m,v3,by simp,by simp -implicitDefEqProofs only [AA,↓reduceIte,jC],by simp -implicitDefEqProofs only [AA,↓reduceIte,jC],by simp -implicitDefEqProofs only [AA,↓reduceIte,jC],by simp -implicitDefEqProofs only [AA,↓reduceIte,jC],by simp -implicitDefEqProofs only [AA,↓reduceIte,jC],by simp -implicitDefEqProofs only [AA,↓reduceIte,jC],by simp -implicitDefEqProofs only [AA,↓reduceIte] <;> rfl,gm5,g45,S5,q5,A09 m,hx',rfl⟩ ?_
 clear gm5 g45 S5 q5 hx' N5 g6 g7 s1 s2 hx5
 rintro n F H ⟨k,st,v3',hk,f2,f4,f6,f7,f22,f23,f24,gmH,g4H,S,T,hok,hxH,hrun⟩
 simp -implicitDefEqProofs only [BC,BA,BI,A8,AY,BB,AO,AQ,AL,BD,AX,AC,AA,AZ,BQ,AB,C9,↓reduceIte,jA,jB,enP,f23,f24]
 refine CV (fun hc => ?_) (fun hc => ?_)
 ·have hk':k < l.length:=by simpa using hc
  rw [List.drop_eq_getElem_cons hk',jE] at hrun
  simp -implicitDefEqProofs only [BC,BP,BA,BR,A8,AY,BB,AO,AQ,AL,BD,AX,AC,AA,AZ,BU,BG,A7,BX,CG,BZ,BO,AB,jE,jD,jF,↓reduceIte,jC,jA,jB,enP,A2X,f22,f24,D7 hk',DZ A0Y hk',ANR,f2,ldM gmH,f6,f7]
  refine (AIW G hG hT m hm hg S hok.sh st.ls hok.ll (fun x hx=>by have:=hok.l7 x hx; omega) T l[k].l l[k].m (by have:=he _ (jO hk'); omega) hok.sm hok.il).mono ?_
  intro v H' hQ
  unfold A3N at hQ
  rcases hQ with ⟨e,hne,hfst,rfl,hxe⟩ | ⟨hfst,rfl,lb,hlb2,glb,S',hFr⟩
  ·have hb:(e == 0)=false:=by simpa using hne
   have hse:V9 m st l[k].l=e:=hfst
   have g4':=E8 hxe g4H
   simp -implicitDefEqProofs only [FK,BC,BA,BJ,BI,A8,CQ,ED,F7,CZ,AY,BB,AO,AQ,AL,BD,AX,AC,ES,AA,AZ,AU,BH,BG,A7,KY,EI,BQ,AB,DT,ET,↓reduceIte,jC,jA,jB,enP,jT,bne,hb,AWX,f4,stZ g4' rfl]
   rw [AHE (ba:=b4) (by simp -implicitDefEqProofs only [AA,↓reduceIte,jC,f4]) (PT (EJ g4') rfl)]
   refine ⟨(hxH.trans hxe).set (by omega) _,?_⟩
   have hr:P9 m (zS m) (l.map Ss.l)=(e,st):=by
    rw [hrun]
    show (if V9 m st l[k].l≠0 then (V9 m st l[k].l,st) else _)=_
    rw [hse,if_pos hne]
   unfold AMO N7
   rw [if_neg (by rw [hr]; exact fun q=>hne q.2),if_pos h0,hr]
   simp -implicitDefEqProofs only [AA,↓reduceIte]
   rfl
  ·have hse:V9 m st l[k].l=0:=hfst
   have hr:P9 m (zS m) (l.map Ss.l)=P9 m (stp m st l[k].l) ((l.drop (k+1)).map Ss.l):=by
    rw [hrun]
    show (if V9 m st l[k].l≠0 then (V9 m st l[k].l,st) else _)=_
    rw [hse,if_neg (by decide)]
   have hpl : ∀ b∈pb,H0.length≤b:=S.np.lo
   have hcl : ∀ b∈cbs,H0.length≤b:=S.nc.lo
   have hhl:=hx.le
   have gm':=hFr.get _ _ gmH (by omega) (by omega) (fun q=>by have:=hpl _ q; omega) (fun q=>by have:=hcl _ q; omega)
   have g4':=hFr.get _ _ g4H (by omega) (by omega) (fun q=>by have:=hpl _ q; omega) (fun q=>by have:=hcl _ q; omega)
   have hx2:=hFr.ext hxH (by omega) (by omega) (fun b hb=>by have:=hpl _ hb; omega) (fun b hb=>by have:=hcl _ hb; omega)
   have T':TLs H' (.own lb 0 m.pts.length) (stp m st l[k].l).ls:=by
    refine .inr (.inr ⟨lb,_,?_,glb,RowsL.map _⟩)
    rw [(hok.step l[k].l).ll]
   simp -implicitDefEqProofs only [BC,BA,BR,BI,A8,EH,ER,DI,AY,BB,AO,AQ,AL,BD,AX,AC,AA,AZ,AU,BH,BG,A7,BQ,AB,DK,ET,↓reduceIte,jC,jA,jV,jB,enP,bne,beq_self_eq_true,f24,wrap_succ (show k < 9223372036854775807 by omega)]
   exact ⟨n - 1,by omega,k+1,stp m st l[k].l,_,by omega,by trivial,by trivial,by trivial,by trivial,by trivial,by trivial,by trivial,gm',g4',S',T',hok.step _,hx2,hr⟩
 ·have hk' : ¬ k < l.length:=by simpa using hc
  rw [zG (by omega)] at hrun
  have hr:P9 m (zS m) (l.map Ss.l)=(0,st):=hrun
  simp -implicitDefEqProofs only [BC,BA,BJ,DW,A8,EG,EY,EZ,AY,BB,AO,AQ,AL,BD,AX,AC,ES,AA,AZ,AU,BH,A7,BX,EI,AB,DT,↓reduceIte,jC,jA,jB,enP,jT,f4,f6,PT S.gc rfl,A38 g4H rfl]
  rw [AHE (ba:=b4) (by simp -implicitDefEqProofs only [AA,↓reduceIte,jC,f4]) (PT (EJ g4H) rfl)]
  refine ⟨hxH.set (by omega) _,?_⟩
  have np':NL H0.length (H.set b4 (.live 4 [cvR po st.P co st.C st.sam st.ill])) po pb st.P:=S.np.keep fun b x hb hg=>DU hg (by have:=S.np.lt hb; omega)
  have nc':NL H0.length (H.set b4 (.live 4 [cvR po st.P co st.C st.sam st.ill])) co cbs st.C:=S.nc.keep fun b x hb hg=>DU hg (by have:=S.nc.lt hb; omega)
  have e1:=A3D st np' nc' h.length 0 hx.le
  unfold AMO N7
  rw [if_pos (by rw [hr]; exact ⟨h0,rfl⟩),if_pos h0,hr]
  simp -implicitDefEqProofs only [AA,↓reduceIte]
  show AV.tup [IG h.length _ 4 (.agg (cvR po st.P co st.C st.sam st.ill)),.int .i64 0]=_
  rw [e1]
theorem getD_at (xs:List Int) (k:Nat) (hk:k < xs.length):xs.getD k 0=xs[k]:=by rw [jZ,jL hk]; rfl
theorem AGJ (xs:List Int) (b k:Nat) (hb:b < xs.length):(raiseAt xs b).getD k 0=if b=k then rz (xs.getD b 0) else xs.getD k 0:=by
 unfold raiseAt
 rw [jZ,List.getElem?_set]
 split
 ·rfl
 ·rw [jZ]
theorem VA (k:Nat) : ∀ (hit:List Nat) (xs:List Int),hit.Nodup→(∀ x∈hit,x < xs.length)→(rowP hit xs).getD k 0=if k∈hit then rz (xs.getD k 0) else xs.getD k 0
 | [],xs,_,_=>by simp [rowP]
 | b :: hit,xs,hn,hl=>by
   obtain ⟨h1,h2⟩:=List.nodup_cons.1 hn
   have hb:=hl b (by simp)
   have ih:=VA k hit (raiseAt xs b) h2 (fun x hx=>by rw [QU]; exact hl x (by simp [hx]))
   have e:rowP (b :: hit) xs=rowP hit (raiseAt xs b):=rfl
   rw [e,ih,AGJ xs b k hb]
   by_cases hk:k∈hit
   ·have hne:b≠k:=fun q=>h1 (by rw [q]; exact hk)
    rw [if_pos hk,if_neg hne,if_pos (by simp [hk])]
   ·rw [if_neg hk]
    by_cases hbk:b=k
    ·subst hbk
     rw [if_pos rfl,if_pos (by simp)]
    ·rw [if_neg hbk,if_neg (by simp [hk]; exact fun q=>hbk q.symm)]
theorem AAL (bins:List Bin) (last:List Int) (v kind:Int) : ∀ k,(MB bins last v kind k).Nodup
 | 0=>by simp [MB]
 | k+1=>by
   have ih:=AAL bins last v kind k
   simp only [MB]
   split
   ·refine List.nodup_append.2 ⟨ih,by simp,fun a ha c hc e => ?_⟩
    simp at hc
    have:=ACQ bins last v kind k a ha
    omega
   ·simpa using ih
theorem Y4 (p:Pt) (last:List Int) (l:List Sg):(ptE p last l).hit.Nodup:=by
 unfold ptE
 split
 ·simp
 ·split
  ·simp
  ·split
   ·simp
   ·split
    ·simp
    ·exact AAL _ _ _ _ _
theorem ACR (bins:List Bin) (last:List Int) (v:Int) : ∀ k,∀ x∈MB bins last v 0 k,∃ b,bins[x]? = some b∧(b.kind == 0)=true
 | 0,x,hx=>by simp [MB] at hx
 | k+1,x,hx=>by
   simp only [MB] at hx
   rcases zY.1 hx with h | h
   ·exact ACR bins last v k x h
   ·split at h
    ·rename_i hq
     simp at h; subst h
     cases hb:bins[x]? with
     | none=>rw [hb] at hq; cases hq
     | some b =>
       rw [hb] at hq
       have hK1:hK last v 0 b=true:=hq
       unfold hK at hK1
       rw [jU] at hK1
       exact ⟨b,rfl,hK1.1⟩
    ·cases h
theorem AT7 (p:Pt) (last:List Int) (l:List Sg) : ∀ x∈(ptE p last l).hit,(kindOf p x == 0)=true:=by
 intro x hx
 unfold ptE at hx
 split at hx
 ·cases hx
 ·split at hx
  ·cases hx
  ·split at hx
   ·cases hx
   ·split at hx
    ·cases hx
    ·obtain ⟨b,h1,h2⟩:=ACR _ _ _ _ x hx
     unfold kindOf; rw [h1]; exact h2
theorem UK {p:Nat→Bool} : ∀ {l:List Int} {k:Nat},rowF p k l=true↔∀ j,j < l.length→countB (l.getD j 0) (p (k+j))=true
 | [],k=>by simp [rowF]
 | n :: l,k=>by
   simp only [rowF,jU]
   rw [UK (l:=l) (k:=k+1)]
   constructor
   ·rintro ⟨h1,h2⟩ j hj
    cases j with
    | zero=>exact h1
    | succ j =>
      have:=h2 j (by simpa using hj)
      rw [show k+(j+1)=k+1+j by omega]; exact this
   ·intro h
    refine ⟨h 0 (by simp),fun j hj => ?_⟩
    have:=h (j+1) (by simpa using hj)
    rw [show k+(j+1)=k+1+j by omega] at this; exact this
theorem AFW {n:Int} {p:Bool} (h:countB n p=true) (hp:p=true):countB (rz n) p=true:=by
 have h1:=V4 h
 subst hp
 unfold countB
 simp only [Bool.true_or,Bool.and_true]
 rw [NJ] at *
 unfold rz; omega
theorem AUJ {p:Pt} {last:List Int} {env:List Sg} {x y:Is} (hx:okP p x=true) (hy:y.l=rowP (ptE p last env).hit x.l):okP p y=true:=by
 unfold okP at *
 simp only [jU,beq_iff_eq] at *
 rw [hy,QA]
 refine ⟨hx.1,UK.2 fun j hj => ?_⟩
 rw [QA] at hj
 have h2:=UK.1 hx.2 j hj
 rw [VA j _ _ (Y4 _ _ _) (fun z hz=>by rw [hx.1]; exact AGK _ _ _ z hz)]
 split
 ·rename_i hm
  exact AFW h2 (by rw [jG]; exact AT7 _ _ _ j hm)
 ·exact h2
theorem AQ5 (m:Mo) (x:Cr) (hits:List (List Nat)) (xs:List Int) (k:Nat) (hk:k < xs.length):(rowC m x hits xs).getD k 0=if crK m x hits k=true then rz (xs.getD k 0) else xs.getD k 0:=by
 have hl:k < (rowC m x hits xs).length:=by rw [rowC_len]; exact hk
 rw [getD_at _ _ hl,rowC_get m x hits xs k hk hl,getD_at _ _ hk]
theorem AUK {m:Mo} {c:Cr} {hits:List (List Nat)} {x y:Is} (hx:okC m c x=true) (hy:y.l=rowC m c hits x.l):okC m c y=true:=by
 unfold okC at *
 simp only [jU,beq_iff_eq] at *
 rw [hy,rowC_len]
 refine ⟨hx.1,UK.2 fun j hj => ?_⟩
 rw [rowC_len] at hj
 have h2:=UK.1 hx.2 j hj
 rw [AQ5 m c hits _ j hj]
 split
 ·rename_i hm
  unfold crK at hm
  rw [jU] at hm
  exact AFW h2 (by rw [jG]; exact hm.1)
 ·exact h2
theorem AG6 {α:Type} {ok:α→Is→Bool} : ∀ {ws:List α} {xs:List Is},ws.length=xs.length→(∀ (i:Nat) (a:α) (x:Is),ws[i]? = some a→xs[i]? = some x→ok a x=true)→QG ok ws xs=true
 | [],[],_,_=>rfl
 | w :: ws,x :: xs,hl,h=>by
   simp only [QG,jU]
   exact ⟨h 0 w x rfl rfl,AG6 (by simpa using hl) fun i a y h1 h2=>h (i+1) a y (by simpa using h1) (by simpa using h2)⟩
 | [],_ :: _,hl,_=>by simp at hl
 | _ :: _,[],hl,_=>by simp at hl
structure FitS (m:Mo) (s:St):Prop where
 me:IA m=0
 fp:QG okP m.pts (N9 s.P)=true
 fc:QG (okC m) m.crs (N9 s.C)=true
 ws:LM s.sam=true
 wi:LM s.ill=true
 ll:s.ls.length=m.pts.length
 lb : ∀ l∈s.ls,lastB l=true
theorem AYX {p:Pt} {x y:Is} (h:x.l=y.l):okP p x=okP p y:=by unfold okP; rw [h]
theorem AY0 {m:Mo} {c:Cr} {x y:Is} (h:x.l=y.l):okC m c x=okC m c y:=by unfold okC; rw [h]
theorem ALU (P:List (List Int)):(N9 P).map (·.l)=P:=by unfold N9; rw [List.map_map]; exact List.map_id _
theorem FitS.fits {m:Mo} {s:St} (h:FitS m s):AFN m (cvS s)=true:=ZK.2 ⟨h.me,h.fp,h.fc,h.ws,h.wi⟩
theorem SB {α:Type} {ok:α→Is→Bool} {ws:List α} {xs:List Is} (h:QG ok ws xs=true) (i:Nat) (a:α) (x:Is) (h1:ws[i]? = some a) (h2:xs[i]? = some x):ok a x=true:=by
 obtain ⟨y,hy,hk⟩:=X9 h i a h1
 rw [h2] at hy; cases hy; exact hk
theorem FitS.ok {m:Mo} {s:St} (h:FitS m s):StOk m s:=by
 have lp:=ACZ h.fp
 have lc:=ACZ h.fc
 have hpl:s.P.length=m.pts.length:=by rw [lp]; simp [N9]
 have hcl:s.C.length=m.crs.length:=by rw [lc]; simp [N9]
 refine ⟨⟨hpl,hcl,fun i a b => ?_,fun i a b => ?_,fun xs hx => ?_,fun xs hx => ?_⟩,h.ll,fun l hl => ?_,NJ.1 h.ws,NJ.1 h.wi⟩
 ·have:=SB h.fp i m.pts[i] ⟨.any,s.P[i]⟩ (jL b) (by simp [N9])
  unfold okP at this
  simp only [jU,beq_iff_eq] at this
  exact this.1
 ·have:=SB h.fc i m.crs[i] ⟨.any,s.C[i]⟩ (jL b) (by simp [N9])
  unfold okC at this
  simp only [jU,beq_iff_eq] at this
  exact this.1
 ·obtain ⟨i,hi,rfl⟩:=qH hx
  have:=SB h.fp i m.pts[i] ⟨.any,s.P[i]⟩ (jL (by omega)) (by simp [N9])
  unfold okP at this
  rw [jU] at this
  exact fun n hn=>NJ.1 (UJ this.2 n hn)
 ·obtain ⟨i,hi,rfl⟩:=qH hx
  have:=SB h.fc i m.crs[i] ⟨.any,s.C[i]⟩ (jL (by omega)) (by simp [N9])
  unfold okC at this
  rw [jU] at this
  exact fun n hn=>NJ.1 (UJ this.2 n hn)
 ·have:=h.lb l hl
  unfold lastB at this
  rw [jU] at this
  simpa using this.1
theorem ABJ {n:Int} (h:LM n=true):LM (rz n)=true:=by
 rw [NJ] at *
 unfold rz; omega
theorem A26 (l:List Sg) (e:Ex):(evE l e).1 < 65536:=by
 unfold evE
 split
 ·decide
 ·split
  ·exact AO2 l e
  ·decide
theorem WM {last:List Int} {v:Nat} (hl:lastB last=true) (hv:v < 65536):lastB (nextL last v)=true:=by
 unfold lastB at *
 simp only [jU,decide_eq_true_eq,Bool.not_eq_true'] at *
 obtain ⟨h1,h2⟩:=hl
 refine ⟨?_,?_⟩
 ·unfold nextL; rw [List.length_drop,zZ]; simp; omega
 ·rw [List.any_eq_false] at *
  intro x hx
  have hx':=List.mem_of_mem_drop hx
  rcases zY.1 hx' with h | h
  ·exact h2 x h
  ·simp at h; subst h
   unfold outW
   simp; omega
theorem AT6 {p:Pt} {last:List Int} {l:List Sg} (h0:(ptE p last l).err=0):lastB (ptE p last l).next=true:=by
 have hv:=A26 l p.ex
 unfold ptE at *
 split at h0
 ·cases h0
 ·rename_i hn
  have hlb:lastB last=true:=by
   cases hq:lastB last
   ·exact absurd (.inr hq) hn
   ·rfl
  rw [if_neg hn]
  split at h0
  ·rename_i h1
   exact absurd h0 h1
  ·rename_i h1
   rw [if_neg h1]
   split
   ·exact WM hlb hv
   ·split
    ·exact WM hlb hv
    ·exact WM hlb hv
theorem FitS.step {m:Mo} {s:St} (h:FitS m s) {env:List Sg} (h0:V9 m s env=0):FitS m (stp m s env):=by
 have hok:=h.ok
 have hr:=UM m s.ls env h.ll
 have hpl:=hok.sh.pl
 have hcl:=hok.sh.cl
 have l1:=UE (N8 m s.ls env) s.P (by omega)
 have l2:=UG m ((N8 m s.ls env).map PtR.hit) s.C hcl
 refine ⟨h.me,?_,?_,ABJ h.ws,?_,by simp [stp,hr],fun l hl => ?_⟩
 ·refine AG6 (by simp [N9,stp,l1]; omega) fun i a x e1 e2 => ?_
  have hi:i < m.pts.length:=CE e1
  rw [jL hi] at e1; cases e1
  have hx:x.l=rowP (ptE m.pts[i] (s.ls[i]'(by rw [h.ll]; exact hi)) env).hit (s.P[i]'(by omega)):=by
   unfold N9 at e2
   rw [jX] at e2
   have:(stp m s env).P[i]? = some (rowP ((N8 m s.ls env)[i]'(by omega)).hit (s.P[i]'(by omega))):=by
    show (PQ (N8 m s.ls env) s.P)[i]? = _
    rw [jL (by omega),UF _ _ i (by omega) (by omega)]
   rw [this] at e2; cases e2
   rw [XK m s.ls env i hi (by rw [h.ll]; exact hi) (by omega)]
  exact AUJ (SB h.fp i m.pts[i] ⟨.any,s.P[i]'(by omega)⟩ (jL hi) (by simp [N9] <;> omega)) hx
 ·refine AG6 (by simp [N9,stp,l2]; omega) fun i a x e1 e2 => ?_
  have hi:i < m.crs.length:=CE e1
  rw [jL hi] at e1; cases e1
  have hx:x.l=rowC m m.crs[i] ((N8 m s.ls env).map PtR.hit) (s.C[i]'(by omega)):=by
   unfold N9 at e2
   rw [jX] at e2
   have:(stp m s env).C[i]? = some (rowC m m.crs[i] ((N8 m s.ls env).map PtR.hit) (s.C[i]'(by omega))):=by
    show (RY m ((N8 m s.ls env).map PtR.hit) s.C)[i]? = _
    rw [jL (by omega),UH _ _ _ i hi (by omega)]
   rw [this] at e2; cases e2
   rfl
  exact AUK (SB h.fc i m.crs[i] ⟨.any,s.C[i]'(by omega)⟩ (jL hi) (by simp [N9] <;> omega)) hx
 ·unfold stp
  dsimp only
  split
  ·exact ABJ h.wi
  ·exact h.wi
 ·obtain ⟨r,hrm,rfl⟩:=zJ.1 hl
  have he:=OH PtR.err h0 r hrm
  obtain ⟨p,hp,rfl⟩:=zJ.1 hrm
  exact AT6 he
theorem ATA {m:Mo} (h:IA m=0):FitS m (zS m):=by
 refine ⟨h,?_,?_,by show LM 0=true; decide,by show LM 0=true; decide,(A09 m).ll,fun l hl => ?_⟩
 ·rw [show QG okP m.pts (N9 (zS m).P)=QG okP m.pts (m.pts.map fun p=>zIs p.bins.length) from AC0 (ok:=okP) (fun _ _ _ h=>AYX h) _ _ _ (by rw [ALU]; simp [zS,zP,zIs])]
  exact ACY (ok:=okP) _ (fun p=>by unfold okP; simp [zIs,Y2]; simp [zeros]) _
 ·rw [show QG (okC m) m.crs (N9 (zS m).C)=QG (okC m) m.crs (m.crs.map fun c=>zIs (JO (szs m c.pts))) from AC0 (ok:=okC m) (fun _ _ _ h=>AY0 h) _ _ _ (by rw [ALU]; simp [zS,zC,zIs])]
  exact ACY (ok:=okC m) _ (fun c=>by unfold okC; simp [zIs,Y2]; simp [zeros]) _
 ·rw [List.eq_of_mem_replicate hl]; decide
structure Sx (h H:Hp) (m:Mo) (c:Cvr) (t:Tk) (vb tb b8 b9 n0 K ob nb po co:Nat) (pb cbs:List Nat) (P C:List (List Int)) (sam ill:Int) (w:AV):Prop where
 gm:H[h.length]? = some (.live 2 [EE m])
 gv:H[vb]? = some (.live 4 [encV c])
 gt:H[tb]? = some (.live 1 [AKX t])
 g8:H[b8]? = some (.live 4 [IC])
 g9:H[b9]? = some (.live 1 [G7])
 o1:h.length < vb
 o2:vb < tb
 o3:tb < b8
 o4:b8 < b9
 o5:b9 < n0
 cs:CS n0 H ob nb po co pb cbs P C sam ill w
 lo:n0≤ob
 ln:n0≤nb
 ho:ob < K
 hn:nb < K
 hp : ∀ b∈pb,b < K
 hc : ∀ b∈cbs,b < K
 hpo:P≠[]→po < K
 hco:C≠[]→co < K
 kh:K≤H.length
 hx:ext h H
section
variable {h H:Hp} {m:Mo} {c:Cvr} {t:Tk} {vb tb b8 b9 n0 K ob nb po co:Nat} {pb cbs:List Nat} {P C:List (List Int)} {sam ill:Int} {w:AV} (S:Sx h H m c t vb tb b8 b9 n0 K ob nb po co pb cbs P C sam ill w)
include S
theorem Sx.keep {H':Hp} (hk : ∀ (b:Nat) (x:ABlk),b < K→H[b]? = some x→H'[b]? = some x) (hl:K≤H'.length) (hx:Sm.ext h H'):Sx h H' m c t vb tb b8 b9 n0 K ob nb po co pb cbs P C sam ill w:=by
 have o1:=S.o1; have o2:=S.o2; have o3:=S.o3; have o4:=S.o4; have o5:=S.o5; have lo:=S.lo; have ho:=S.ho
 have cs:=S.cs
 refine ⟨hk _ _ (by omega) S.gm,hk _ _ (by omega) S.gv,hk _ _ (by omega) S.gt,hk _ _ (by omega) S.g8,hk _ _ (by omega) S.g9,o1,o2,o3,o4,o5,
  ⟨hk _ _ S.ho cs.gc,hk _ _ S.hn cs.gt,cs.np.keep fun b x hb hg => ?_,cs.nc.keep fun b x hb hg => ?_,cs.dis,cs.xcp,cs.xcc,cs.xtp,cs.xtc,cs.xpo,cs.xco,cs.ct⟩,S.lo,S.ln,S.ho,S.hn,S.hp,S.hc,S.hpo,S.hco,hl,hx⟩
 ·rcases hb with ⟨hP,rfl⟩ | hb
  ·exact hk _ _ (S.hpo hP) hg
  ·exact hk _ _ (S.hp _ hb) hg
 ·rcases hb with ⟨hC,rfl⟩ | hb
  ·exact hk _ _ (S.hco hC) hg
  ·exact hk _ _ (S.hc _ hb) hg
theorem Sx.app (x:Hp):Sx h (H ++ x) m c t vb tb b8 b9 n0 K ob nb po co pb cbs P C sam ill w:=S.keep (fun _ _ _ hg=>FQ hg) (by have:=S.kh; simp; omega) (S.hx.app x)
theorem Sx.m0:DX Tryz.prog H 22 (.ptr h.length 0 0)=some (.sl m.pm 6 (m.pts.map F9)):=by rw [DJ Z7 S.gm (row:=EE m) rfl,SE]
theorem Sx.m1:DX Tryz.prog H 23 (.ptr h.length 0 1)=some (.sl m.cm 3 (m.crs.map G6)):=by rw [DJ AD2 S.gm (row:=EE m) rfl,U1]
theorem Sx.v0:DX Tryz.prog H 67 (.ptr vb 0 0)=some (.sl c.pm 1 (c.pts.map encL)):=by rw [DJ TR S.gv (row:=encV c) rfl,A1M]
theorem Sx.v3:DX Tryz.prog H 3 (.ptr vb 0 3)=some (.int .i64 c.ill):=by rw [DJ ag3 S.gv (row:=encV c) rfl,A1L]
theorem Sx.t0:DX Tryz.prog H 67 (.ptr tb 0 0)=some (.sl t.m 1 (t.last.map encL)):=by rw [DJ TR S.gt (row:=AKX t) rfl,A5Q]
theorem Sx.rowP {i:Nat} (hi:i < P.length) (hip:i < pb.length):DX Tryz.prog H 67 (.ptr ob 0 0)=some (nlV po P)∧JG 1 H (nlV po P) (.int .i64 (i:Nat))=some (.ptr po i 0)∧DX Tryz.prog H 26 (.ptr po i 0)=some (.own pb[i] 0 P[i].length)∧H[pb[i]]? = some (.live 1 (P[i].map qencI)) :=
 ⟨S.cs.l0,S.cs.np.ix hi,S.cs.np.ld hi,S.cs.np.row i hip hi⟩
theorem Sx.rowC {i:Nat} (hi:i < C.length) (hip:i < cbs.length):DX Tryz.prog H 67 (.ptr ob 0 1)=some (nlV co C)∧JG 1 H (nlV co C) (.int .i64 (i:Nat))=some (.ptr co i 0)∧DX Tryz.prog H 26 (.ptr co i 0)=some (.own cbs[i] 0 C[i].length)∧H[cbs[i]]? = some (.live 1 (C[i].map qencI)) :=
 ⟨S.cs.l1,S.cs.nc.ix hi,S.cs.nc.ld hi,S.cs.nc.row i hip hi⟩
end
structure Sy (h H:Hp) (m:Mo) (c:Cvr) (t:Tk) (vb tb b8 b9:Nat):Prop where
 gm:H[h.length]? = some (.live 2 [EE m])
 gv:H[vb]? = some (.live 4 [encV c])
 gt:H[tb]? = some (.live 1 [AKX t])
 g8:H[b8]? = some (.live 4 [IC])
 g9:H[b9]? = some (.live 1 [G7])
 o1:h.length < vb
 o2:vb < tb
 o3:tb < b8
 o4:b8 < b9
 o5:b9 < H.length
 hx:ext h H
theorem Sy.mk' (h:Hp) (m:Mo) (c:Cvr) (t:Tk):Sy h (h ++ [ABlk.live 2 [EE m]] ++ [ABlk.live 4 [encV c]] ++ [ABlk.live 1 [AKX t]] ++ [ABlk.live 4 [IC]] ++ [ABlk.live 1 [G7]]) m c t (h ++ [ABlk.live 2 [EE m]]).length (h ++ [ABlk.live 2 [EE m]] ++ [ABlk.live 4 [encV c]]).length
  (h ++ [ABlk.live 2 [EE m]] ++ [ABlk.live 4 [encV c]] ++ [ABlk.live 1 [AKX t]]).length (h ++ [ABlk.live 2 [EE m]] ++ [ABlk.live 4 [encV c]] ++ [ABlk.live 1 [AKX t]] ++ [ABlk.live 4 [IC]]).length :=
 ⟨CU (CU (CU (CU (CW _ _)))),CU (CU (CU (CW _ _))),CU (CU (CW _ _)),CU (CW _ _),CW _ _,by simp,by simp,by simp,by simp,by simp,((((ext.rfl' h).app _).app _).app _).app _ |>.app _⟩
theorem hbs {α β:Type} (f:α→β) (l:List α) (k:Nat) {h:k < l.length}:(l.take k).map f ++ [f l[k]]=(l.take (k+1)).map f:=by rw [zN h,List.map_append]; rfl
structure Rr (h H:Hp) (m:Mo) (c:Cvr) (t:Tk) (b4 cb tb:Nat):Prop where
 gm:H[h.length]? = some (.live 2 [EE m])
 g4:H[b4]? = some (.live 4 [IC])
 gc:H[cb]? = some (.live 4 [encV c])
 gt:H[tb]? = some (.live 1 [AKX t])
 o1:h.length < b4
 o2:b4 < cb
 o3:cb < tb
 hx:ext h H
theorem Rr.ext {h H H':Hp} {m:Mo} {c:Cvr} {t:Tk} {b4 cb tb:Nat} (R:Rr h H m c t b4 cb tb) (hx:Sm.ext H H'):Rr h H' m c t b4 cb tb:=⟨E8 hx R.gm,E8 hx R.g4,E8 hx R.gc,E8 hx R.gt,R.o1,R.o2,R.o3,R.hx.trans hx⟩
def stK (m:Mo) (l:List (List Sg)) (k:Nat):St:=(l.take k).foldl (stp m) (zS m)
theorem XH (m:Mo) {l:List (List Sg)} {k:Nat} (hk:k < l.length):stK m l (k+1)=stp m (stK m l k) l[k]:=by
 unfold stK
 rw [zN hk,List.foldl_append]; rfl
theorem AI4 (m:Mo) : ∀ (l:List (List Sg)) (s:St),(P9 m s l).1=0→(P9 m s l).2=l.foldl (stp m) s∧∀ (k:Nat) (hk:k < l.length),V9 m ((l.take k).foldl (stp m) s) l[k]=0
 | [],s,_=>⟨rfl,fun k hk=>by simp at hk⟩
 | e :: r,s,h=>by
   have hz:V9 m s e=0:=Classical.byContradiction fun hn=>by
    unfold P9 at h
    rw [if_pos hn] at h
    exact hn h
   have hr:P9 m s (e :: r)=P9 m (stp m s e) r:=by
    show (if V9 m s e≠0 then (V9 m s e,s) else P9 m (stp m s e) r)=_
    rw [if_neg (fun q=>q hz)]
   rw [hr] at h ⊢
   obtain ⟨h1,h2⟩:=AI4 m r (stp m s e) h
   refine ⟨h1,fun k hk => ?_⟩
   cases k with
   | zero=>exact hz
   | succ k=>exact h2 k (by simpa using hk)
structure RunOk (m:Mo) (l:List (List Sg)):Prop where
 me:IA m=0
 eq:(P9 m (zS m) l).2=stK m l l.length
 e0:(P9 m (zS m) l).1=0
 er : ∀ (k:Nat) (hk:k < l.length),V9 m (stK m l k) l[k]=0
theorem ABT {m:Mo} {l:List (List Sg)} (h:N7 m l=0):RunOk m l:=by
 unfold N7 at h
 split at h
 ·rename_i hm
  obtain ⟨h1,h2⟩:=AI4 m l (zS m) h
  refine ⟨hm,?_,h,h2⟩
  rw [h1]
  unfold stK
  rw [List.take_length]
 ·rename_i hm; exact absurd h hm
theorem RunOk.fit {m:Mo} {l:List (List Sg)} (h:RunOk m l) : ∀ k,k≤l.length→FitS m (stK m l k)
 | 0,_=>ATA h.me
 | k+1,hk=>by
   rw [XH m (by omega)]
   exact (h.fit k (by omega)).step (h.er k (by omega))
theorem RunOk.val {m:Mo} {l:List (List Sg)} (h:RunOk m l):OX m l=cvS (stK m l l.length):=by
 unfold OX
 rw [if_pos ⟨h.me,h.e0⟩,h.eq]
structure Bd (k:Nat) (s:St):Prop where
 P : ∀ xs∈s.P,∀ x∈xs,x≤(k:Int)
 C : ∀ xs∈s.C,∀ x∈xs,x≤(k:Int)
 sam:s.sam=(k:Int)
 ill:s.ill≤(k:Int)
theorem AT1 (n:Int):rz n≤n+1:=by unfold rz; omega
theorem A4H {n:Int} (h:n < 1099511627776):rz n=n+1:=by unfold rz; omega
theorem Bd.step {m:Mo} {s:St} {k:Nat} (h:Bd k s) (hok:StOk m s) (hk:k < 1099511627776) (env:List Sg):Bd (k+1) (stp m s env):=by
 have hr:=UM m s.ls env hok.ll
 have hpl:=hok.sh.pl
 have hcl:=hok.sh.cl
 have l1:=UE (N8 m s.ls env) s.P (by omega)
 have l2:=UG m ((N8 m s.ls env).map PtR.hit) s.C hcl
 refine ⟨fun xs hx x hxx => ?_,fun xs hx x hxx => ?_,?_,?_⟩
 ·obtain ⟨i,hi,rfl⟩:=qH (show xs∈PQ (N8 m s.ls env) s.P from hx)
  have hi':i < s.P.length:=by omega
  have him:i < m.pts.length:=by omega
  rw [UF _ _ i (by omega) hi'] at hxx
  obtain ⟨j,hj,rfl⟩:=qH hxx
  rw [QA] at hj
  have hg:=XK m s.ls env i him (by rw [hok.ll]; exact him) (by omega)
  have hpe:=hok.sh.pe i hi' him
  rw [← getD_at _ j (by rw [QA]; exact hj),VA j _ _ (by rw [hg]; exact Y4 _ _ _) (fun x hx=>by rw [hg] at hx; rw [hpe]; exact AGK _ _ _ x hx)]
  have hb:=h.P _ (jO hi') _ (jO hj)
  rw [getD_at _ j hj]
  have:=AT1 (s.P[i][j])
  split <;> omega
 ·obtain ⟨i,hi,rfl⟩:=qH (show xs∈RY m ((N8 m s.ls env).map PtR.hit) s.C from hx)
  have hi':i < s.C.length:=by omega
  rw [UH m _ _ i (by omega) hi'] at hxx
  obtain ⟨j,hj,rfl⟩:=qH hxx
  have hj':=hj
  rw [rowC_len] at hj'
  rw [rowC_get m _ _ _ j hj' hj]
  have hb:=h.C _ (jO hi') _ (jO hj')
  have:=AT1 (s.C[i][j])
  split <;> omega
 ·show rz s.sam=_
  rw [h.sam,A4H (by omega)]; omega
 ·have:=h.ill
  have h2:=AT1 s.ill
  unfold stp
  dsimp only
  split <;> omega
def rsK (m:Mo) (l:List (List Sg)) (k:Nat):List PtR:=N8 m (stK m l k).ls (l.getD k [])
theorem WG (m:Mo) {l:List (List Sg)} {k:Nat} (hk:k < l.length):rsK m l k=N8 m (stK m l k).ls l[k]:=by
 unfold rsK
 rw [jZ,jL hk]; rfl
section
variable {m:Mo} {l:List (List Sg)} (R:RunOk m l)
include R
theorem RunOk.rl {k:Nat} (hk:k < l.length):(rsK m l k).length=m.pts.length:=by
 rw [WG m hk]
 exact UM m _ _ (R.fit k (by omega)).ll
theorem RunOk.lsl (k:Nat) (hk:k≤l.length):(stK m l k).ls.length=m.pts.length:=(R.fit k hk).ll
theorem RunOk.pl (k:Nat) (hk:k≤l.length):(stK m l k).P.length=m.pts.length:=(R.fit k hk).ok.sh.pl
theorem RunOk.cl (k:Nat) (hk:k≤l.length):(stK m l k).C.length=m.crs.length:=(R.fit k hk).ok.sh.cl
theorem RunOk.at' {k i:Nat} (hk:k < l.length) (hi:i < m.pts.length) : ∃ (h1:i < (rsK m l k).length) (h2:i < (stK m l k).ls.length),(rsK m l k)[i]=ptE m.pts[i] (stK m l k).ls[i] l[k]:=by
 have h1:=R.rl hk
 have h2:=R.lsl k (by omega)
 refine ⟨by omega,by omega,?_⟩
 have:=XK m (stK m l k).ls l[k] i hi (by omega) (by rw [← WG m hk]; omega)
 rw [← this]
 congr 1
 exact WG m hk
theorem RunOk.err {k i:Nat} (hk:k < l.length) (hi:i < (rsK m l k).length):(rsK m l k)[i].err=0:=by
 have h0:=R.er k hk
 unfold V9 at h0
 rw [← WG m hk] at h0
 exact OH PtR.err h0 _ (jO hi)
theorem RunOk.last {k i:Nat} (hk:k < l.length) (hi:i < m.pts.length):(stK m l (k+1)).ls.getD i []=((rsK m l k)[i]'(by rw [R.rl hk]; exact hi)).next:=by
 have h1:=R.rl hk
 rw [XH m hk]
 unfold stp
 dsimp only
 rw [← WG m hk,jZ,jX,jL (by omega)]; rfl
theorem RunOk.row {k i:Nat} (hk:k < l.length) (hi:i < m.pts.length):(stK m l (k+1)).P.getD i []=rowP ((rsK m l k)[i]'(by rw [R.rl hk]; exact hi)).hit ((stK m l k).P.getD i []):=by
 have h1:=R.rl hk
 have h2:=R.pl k (by omega)
 rw [XH m hk]
 unfold stp
 dsimp only
 rw [← WG m hk]
 have hs:=UE (rsK m l k) (stK m l k).P (by omega)
 rw [jZ,jL (by omega),UF _ _ i (by omega) (by omega),jZ,jL (by omega)]; rfl
theorem RunOk.rowC {k i:Nat} (hk:k < l.length) (hi:i < m.crs.length):(stK m l (k+1)).C.getD i []=Xe.rowC m m.crs[i] ((rsK m l k).map PtR.hit) ((stK m l k).C.getD i []):=by
 have h2:=R.cl k (by omega)
 rw [XH m hk]
 unfold stp
 dsimp only
 rw [← WG m hk]
 have hs:=UG m ((rsK m l k).map PtR.hit) (stK m l k).C h2
 rw [jZ,jL (by omega),UH _ _ _ i hi (by omega),jZ,jL (by omega)]; rfl
theorem RunOk.rowLen {k i:Nat} (hk:k≤l.length) (hi:i < m.pts.length):((stK m l k).P.getD i []).length=m.pts[i].bins.length:=by
 have h2:=R.pl k hk
 rw [jZ,jL (by omega)]
 exact (R.fit k hk).ok.sh.pe i (by omega) hi
theorem RunOk.rowCLen {k i:Nat} (hk:k≤l.length) (hi:i < m.crs.length):((stK m l k).C.getD i []).length=JO (szs m m.crs[i].pts):=by
 have h2:=R.cl k hk
 rw [jZ,jL (by omega)]
 exact (R.fit k hk).ok.sh.ce i (by omega) hi
end
end Go.Proofs.YtfpagfhhhlljjaaGreatDoor.Xe
namespace Go.Proofs.YtfpagfhhhlljjaaGreatDoor.Xe
open Sm Bins Cov Go.RowKit
open Nat renaming le_trans→qJ
theorem A75:Tryz.prog.cellsOf 59=2:=by kernel_rfl
theorem A74:Tryz.prog.cellsOf 60=1:=by kernel_rfl
def A4L (s:Sg) (_:Nat):Prop:=VO s
theorem A7L:Rd Tryz.prog 59 GI A4L:=by
 intro n
 match n with
 | 0=>exact RdAt.zero
 | 1=>exact ABZ Tryz.underlying59
 | n+2 =>
   refine RdAt.map (fun x:ByteArray × Int × Unit=>((x.1,x.2.1):Sg)) (NR Tryz.underlying59 (IL rfl cl9 (fun _=>rfl) (rdStr _) (IL rfl cl3 (fun _=>rfl) (rdI _) QT))) (fun _=>rfl) ?_
   rintro ⟨a,b,_⟩ N ⟨_,_,_,_,_,_,_,_,_,h2,_⟩
   exact h2
def A2Q (x:Ss) (b:Nat):Prop:=okL A4L x.l b
theorem A7K:Rd Tryz.prog 60 OV A2Q:=by
 intro n
 cases n with
 | zero=>exact RdAt.zero
 | succ n=>exact RdAt.map (fun x:SM × List Sg=>(⟨x.1,x.2⟩:Ss)) (MW Tryz.underlying60 A75 (by decide) AFT (A7L n)) (fun _=>rfl) (fun x b h=>TE h)
theorem AYA {x:Ss} {b:Nat} (h:A2Q x b) (hb:b≤1048576):x.l.length≤1048576∧∀ s∈x.l,VO s:=by
 refine ⟨qJ (okL.length h) hb,fun s hs => ?_⟩
 obtain ⟨_,_,h2⟩:=okL.each h s hs
 exact h2
structure Rn where
 m:SM
 l:List Ss
def A4M (x:Rn) (b:Nat):Prop:=okL A2Q x.l b
def A5R (z:Rn):List AV := [.sl z.m 1 (z.l.map OV)]
theorem A8Q:Rd Tryz.prog 38 A5R A4M:=by
 intro n
 cases n with
 | zero=>exact RdAt.zero
 | succ n=>exact RdAt.map (fun x:SM × List Ss=>(⟨x.1,x.2⟩:Rn)) (MW Tryz.underlying38 A74 (by decide) (fun _=>rfl) (A7K n)) (fun _=>rfl) (fun x b h=>TE h)
theorem A67 {x:Rn} {b:Nat} (h:A4M x b) (hb:b≤1048576):x.l.length≤1048576∧∀ y∈x.l,y.l.length≤1048576∧∀ s∈y.l,VO s:=by
 refine ⟨qJ (okL.length h) hb,fun y hy => ?_⟩
 obtain ⟨b1,h1,h2⟩:=okL.each h y hy
 exact AYA h2 (by omega)
end Go.Proofs.YtfpagfhhhlljjaaGreatDoor.Xe
