/- Merged texts (12 of 18) of the proof that ends in Mhy: ae Mbw Mcw. -/
import Derived.Test.YtehcknfedbjaaaaGreatDoorAbQmh11
set_option linter.unusedSimpArgs false
set_option linter.unusedVariables false
open Go.Proofs.Tryz
namespace Go.Ab
def cS:Op->Nat
 | .move _ | .assign _ | .pick .. | .binOp .. | .unOp .. | .convert .. | .makeFunc .. | .extract .. | .field .. | .index .. | .build ..=>0
 | .load .. | .fieldAddr .. | .indexAddr .. | .nilCheck _ | .call ⟨.builtin .len,_,_⟩=>1
 | .alloc _=>3
 | .store ..=>4
 | _=>2
def qF (a b:Nat):Bool:=a == 0 || b == 0 || (a == 1 && (b == 1 || b == 3 || b == 4)) || (a == 3 && (b == 1 || b == 3 || b == 4)) || (a == 4 && (b == 1 || b == 3))
def F3 (n0:Nat):au->Prop
 | .ptr id _ _ _ | .arr id _ _ _=>id.1<n0
 | _=>True
def eM (n0:Nat) (op:Op) (O:Env):Prop:=
 match op with
 | .load _ a | .fieldAddr _ a _ | .nilCheck a=>F3 n0 (O.ev a)
 | .indexAddr _ x _=>F3 n0 (O.ev x)
 | .call ⟨.builtin .len,args,_⟩=>∀ x ∈ args.toList,F3 n0 (O.ev x)
 | .store _ a _=>∃ id g idx off,O.ev a = .ptr id g idx off/\n0<=id.1
 | _=>cS op=0
theorem lK {n0:Nat} {H H2:ax} (hag:∀ id:Id,id.1<n0->H2 id=H id) {p:au} (hp:F3 n0 p):dk H2 p=dk H p:=by
 cases p with
 | ptr id g idx off=>simp only[dk];rw[hag id hp]
 | _=>rfl
theorem tn {n0:Nat} {H H2:ax} (hag:∀ id:Id,id.1<n0->H2 id=H id) {id:Id} {g:Nat} (hp:id.1<n0):live H2 id g=live H id g:=by
 unfold live;rw[hag id hp]
section
variable {Ty:Types} {O:Env} {H H2 H':ax} {n n2 n' n0:Nat} {d:Option Tmp} {v:au} {op:Op}
theorem jL (hk:cS op=0) (h:bl Ty d op O H n=some (v,H',n')):H'=H/\n'=n/\∀ H2 n2,bl Ty d op O H2 n2=some (v,H2,n2):=by
 refine uf ?_ h;cases op with
 | call c=>
  obtain⟨cal,args,ats⟩:=c;cases cal with
  | builtin b=>cases b<;>simp[cS] at hk
  | _=>simp[cS] at hk
 | _=>first | rfl | (simp[cS] at hk)
theorem fw (hk:cS op=1) (hc:eM n0 op O) (hag:∀ id:Id,id.1<n0->H2 id=H id) (h:bl Ty d op O H n=some (v,H',n')):H'=H/\n'=n/\bl Ty d op O H2 n2=some (v,H2,n2):=by
 cases op with
 | load t a=>
  simp only[bl] at h ⊢;rw[lK hag hc]
  split at h
  ·split at h
   ·cases h;exact⟨rfl,rfl,rfl⟩
   ·cases h
  ·cases h
 | fieldAddr t a f=>
  simp only[bl] at h ⊢;rw[lK hag hc]
  split at h
  ·split at h
   ·split at h
    ·cases h
    ·rename_i hz
     cases h;exact⟨rfl,rfl,by rw[if_neg hz]⟩
   ·cases h
  ·cases h
 | nilCheck a=>
  simp only[bl] at h ⊢;rw[lK hag hc]
  split at h
  ·cases h;exact⟨rfl,rfl,rfl⟩
  ·cases h
 | indexAddr t x ix=>
  obtain⟨h1,h2,h3⟩:=cx h;refine⟨h2,h3,?_⟩;have:av Ty H2 t (O.ev x) (O.ev ix)=av Ty H t (O.ev x) (O.ev ix):=by
   simp only[eM] at hc;unfold av
   split
   ·generalize O.ev x=p at hc;cases hkd:kd Ty t with
    | slice j=>cases p with
     | arr id g off len=>simp only[tn hag (show id.1<n0 from hc)]
     | _=>rfl
    | arr len j=>simp only[lK hag hc]
    | _=>rfl
   ·rfl
  simp only[bl,this,h1,Option.map_some]
 | call c=>
  obtain⟨cal,args,ats⟩:=c;cases cal with
  | builtin b=>
   cases b<;>simp[cS] at hk;simp only[bl] at h ⊢
   split at h
   ·rename_i x t hx ht
    obtain⟨h1,h2,h3⟩:=cx h;refine⟨h2,h3,?_⟩;have hcx:F3 n0 (O.ev x):=hc x (by rw[hx];simp);have:aZ Ty H2 t (O.ev x)=aZ Ty H t (O.ev x):=by
     unfold aZ;generalize O.ev x=p at hcx;cases hkd:kd Ty t with
     | slice j=>cases p with
      | arr id g off len=>simp only[tn hag (show id.1<n0 from hcx)]
      | v x=>cases x<;>rfl
      | _=>rfl
     | string=>cases p with
      | v x=>cases x<;>rfl
      | _=>rfl
     | _=>rfl
    simp only[this,h1,Option.map_some]
   ·cases h
  | _=>simp[cS] at hk
 | _=>simp[cS] at hk
def tgt:Op->Env->Option Id
 | .store _ a _,O=>match O.ev a with
  | .ptr id _ _ _=>some id
  | _=>none
 | _,_=>none
theorem jV (hk:cS op=4) (hc:eM n0 op O) (h:bl Ty d op O H n=some (v,H',n')) :
  ∃ id ob ob',tgt op O=some id/\n0<=id.1/\H id=some ob/\H'=H.set id ob'/\n'=n/\∀ H2 n2,H2 id=some ob->bl Ty d op O H2 n2=some (v,H2.set id ob',n2):=by
 cases op with
 | store t a x=>
  obtain⟨id,g,idx,off,ha,hid⟩:=hc;simp only[bl] at h ⊢;rw[ha] at h ⊢
  split at h
  ·rename_i H1 hs
   cases h;unfold ca at hs
   split at hs
   ·rename_i i id1 g1 idx1 off1 new e1 e2 e3
    cases e2
    split at hs
    ·rename_i o hl
     split at hs
     ·rename_i hcond
      cases hs;obtain⟨l1,l2⟩:=eb hl;refine⟨id,o,o.write idx off new,by simp only[tgt,ha],hid,l1,rfl,rfl,fun H2 n2 h2=>?_⟩;have hl2:live H2 id g=some o:=by
       unfold live;rw[h2];simp[l2]
      simp only[ca,e1,e3,hl2,if_pos hcond]
     ·cases hs
    ·cases hs
   ·cases hs
  ·cases h
 | call c=>
  obtain⟨cal,args,ats⟩:=c;cases cal with
  | builtin b=>cases b<;>simp[cS] at hk
  | _=>simp[cS] at hk
 | _=>simp[cS] at hk
end
theorem oP {n0:Nat} {op:Op} {O:Env}:eM n0 op (loc op O)↔eM n0 op O:=by
 have h:∀ x,x ∈ op.operands->(loc op O).ev x=O.ev x:=fun x hx=>fL hx
 generalize loc op O=ρ' at h;cases op with
 | call c=>
  obtain⟨cal,args,ats⟩:=c;cases cal with
  | builtin b=>
   cases b<;>try rfl
   have ha:∀ x,x ∈ args.toList->ρ'.ev x=O.ev x:=fun x hx=>h x (by simp[Op.operands,Call.operands];simpa using hx)
   simp only[eM];exact⟨fun hc x hx=>by rw[<- ha x hx];exact hc x hx,fun hc x hx=>by rw[ha x hx];exact hc x hx⟩
  | _=>rfl
 | load t a=>simp only[eM];rw[h a (by simp[Op.operands])]
 | fieldAddr t a f=>simp only[eM];rw[h a (by simp[Op.operands])]
 | nilCheck a=>simp only[eM];rw[h a (by simp[Op.operands])]
 | indexAddr t x i=>simp only[eM];rw[h x (by simp[Op.operands])]
 | store t a x=>simp only[eM];rw[h a (by simp[Op.operands])]
 | _=>rfl
section
variable (Ty:Types) (ops:Array Oper) (n0:Nat)
def vl (o:Oper) (s:AS) (R:AS->Prop):Prop:=
 (gG ops o s.1=some false/\R (s.1.put o.dst o7,s.2)) \/
 (gG ops o s.1=some true/\cS o.op ≠ 3/\eM n0 o.op s.1/\∃ v H',bl Ty o.dst o.op s.1 s.2.1 s.2.2=some (v,H',s.2.2)/\R (s.1.put o.dst v,H',s.2.2)) \/
 (gG ops o s.1=some true/\∃ t k i,o.op = .alloc t/\o.dst=some k/\Ty t=some i/\∀ a,n0<=a->(∀ j,s.2.1 (a,j)=none)->R (s.1.put (some k) (.ptr (a,k) 1 0 0),s.2.1.set (a,k) ⟨i.zero.length,[i.zero.map .v]⟩,max s.2.2 (a+1)))
def Bd (s:AS):Prop:=n0<=s.2.2/\∀ id o,s.2.1 id=some o->id.1<s.2.2
end
theorem set_comm {H:ax} {i j:Id} (o p:Ob) (h:i ≠ j):(H.set i o).set j p=(H.set j p).set i o:=by
 funext x
 simp only[ax.set]
 by_cases h1:x=i<;>by_cases h2:x=j<;>simp_all
section
variable {Ty:Types} {ops:Array Oper} {n0:Nat}
theorem vl.mono {o:Oper} {s:AS} {R R':AS->Prop} (h:vl Ty ops n0 o s R) (hR:∀ s,R s->R' s):vl Ty ops n0 o s R':=by
 rcases h with ⟨h1,h2⟩ | ⟨h1,h2,h3,v,H',h4,h5⟩ | ⟨h1,t,k,i,h2,h3,h4,h5⟩
 ·exact .inl ⟨h1,hR _ h2⟩
 ·exact .inr (.inl ⟨h1,h2,h3,v,H',h4,hR _ h5⟩)
 ·exact .inr (.inr ⟨h1,t,k,i,h2,h3,h4,fun a ha hf=>hR _ (h5 a ha hf)⟩)
theorem gS {op:Op} {O:Env} (h3:cS op ≠ 3) (h:eM n0 op O):cS op=0\/cS op=1\/cS op=4:=by
 cases op with
 | call c=>
  obtain⟨cal,args,ats⟩:=c;cases cal with
  | builtin b=>cases b<;>first | (simp[cS];done) | (simp[eM,cS] at h)
  | _=>simp[eM,cS] at h
 | buildSlice t len ps=>simp only[eM] at h;exact .inl h
 | _=>first | (simp[cS];done) | (simp[eM,cS] at h;done) | (simp[cS] at h3)
theorem Bf {s:AS} (hb:Bd n0 s) (j:Nat):s.2.1 (s.2.2,j)=none:=by
 cases h:s.2.1 (s.2.2,j) with
 | none=>rfl
 | some o=>have:=hb.2 _ o h;simp at this
theorem vl.bd {o:Oper} {s:AS} {R:AS->Prop} (hb:Bd n0 s) (h:vl Ty ops n0 o s R):vl Ty ops n0 o s fun s'=>Bd n0 s'/\R s':=by
 rcases h with ⟨h1,h2⟩ | ⟨h1,h2,h3,v,H',h4,h5⟩ | ⟨h1,t,k,i,h2,h3,h4,h5⟩
 ·exact .inl ⟨h1,hb,h2⟩
 ·refine .inr (.inl ⟨h1,h2,h3,v,H',h4,⟨hb.1,?_⟩,h5⟩);rcases gS h2 h3 with hk | hk | hk
  ·obtain⟨rfl,_⟩:=jL hk h4;exact hb.2
  ·obtain⟨rfl,_⟩:=fw (H2:=s.2.1) (n2:=s.2.2) hk h3 (fun _ _=>rfl) h4;exact hb.2
  ·obtain⟨id,ob,ob',_,_,e2,rfl,_⟩:=jV hk h3 h4;intro id' o' ho';simp only at ho' ⊢
   by_cases he:id'=id
   ·rw[he];exact hb.2 _ _ e2
   ·rw[ax.aY _ _ he] at ho';exact hb.2 _ _ ho'
 ·refine .inr (.inr ⟨h1,t,k,i,h2,h3,h4,fun a ha hf=>⟨⟨?_,?_⟩,h5 a ha hf⟩⟩)
  ·have:=hb.1;simp only;omega
  ·intro id' o' ho';simp only at ho' ⊢
   by_cases he:id'=(a,k)
   ·rw[he];simp only;omega
   ·rw[ax.aY _ _ he] at ho';have:=hb.2 _ _ ho';omega
theorem vl.swap {oi oj:Oper} (hap:oi.apart ops oj=true) (hc:qF (cS oi.op) (cS oj.op)=true) {s:AS} (hb:Bd n0 s) {R:AS->Prop} (h:vl Ty ops n0 oi s fun si=>vl Ty ops n0 oj si R) :
  vl Ty ops n0 oj s fun sj=>vl Ty ops n0 oi sj R:=by
 obtain⟨h1,h2,h3⟩:=Oper.apart_spec hap;have sj:∀ v H n,bl Ty oj.dst oj.op (s.1.put oi.dst v) H n=bl Ty oj.dst oj.op s.1 H n:=fun v H n=>by rw[<- aJ,ia (dT h1),aJ]
 have si:∀ v H n,bl Ty oi.dst oi.op (s.1.put oj.dst v) H n=bl Ty oi.dst oi.op s.1 H n:=fun v H n=>by rw[<- aJ,ia (dT h3),aJ]
 have cj:∀ v,eM n0 oj.op (s.1.put oi.dst v)↔eM n0 oj.op s.1:=fun v=>by rw[<- oP,ia (dT h1),oP]
 have ci:∀ v,eM n0 oi.op (s.1.put oj.dst v)↔eM n0 oi.op s.1:=fun v=>by rw[<- oP,ia (dT h3),oP]
 have gj:∀ v,gG ops oj (s.1.put oi.dst v)=gG ops oj s.1:=fun v=>km h1
 have gi:∀ v,gG ops oi (s.1.put oj.dst v)=gG ops oi s.1:=fun v=>km h3
 have pc:∀ v u,(s.1.put oi.dst v).put oj.dst u=(s.1.put oj.dst u).put oi.dst v:=fun v u=>put_comm v u h2
 obtain⟨O,H,n⟩:=s;simp only at sj si cj ci gj gi pc;rcases h with ⟨hgi,h⟩ | ⟨hgi,hki,hci,v,Hi,hsi,h⟩ | ⟨hgi,t,k,i,hop,hd,hT,h⟩
 ·
  rcases h with ⟨hgj,h⟩ | ⟨hgj,hkj,hcj,u,Hj,hsj,h⟩ | ⟨hgj,t',k',i',hop',hd',hT',h⟩
  ·simp only[gj] at hgj;exact .inl ⟨hgj,.inl ⟨by simpa only [gi] using hgi,by simpa only [pc] using h⟩⟩
  ·simp only[gj,cj,sj] at hgj hcj hsj;exact .inr (.inl ⟨hgj,hkj,hcj,u,Hj,hsj,.inl ⟨by simpa only [gi] using hgi,by simpa only [pc] using h⟩⟩)
  ·simp only[gj] at hgj;rw[hd'] at pc gi;exact .inr (.inr ⟨hgj,t',k',i',hop',hd',hT',fun a ha hf=>.inl ⟨by simpa only [gi] using hgi,by simpa only [pc] using h a ha hf⟩⟩)
 ·
  rcases h with ⟨hgj,h⟩ | ⟨hgj,hkj,hcj,u,Hj,hsj,h⟩ | ⟨hgj,t',k',i',hop',hd',hT',h⟩
  ·simp only[gj] at hgj;exact .inl ⟨hgj,.inr (.inl ⟨by simpa only [gi] using hgi,hki,by simpa only [ci] using hci,v,Hi,by simpa only [si] using hsi,by simpa only [pc] using h⟩)⟩
  ·simp only[gj,cj,sj] at hgj hcj hsj;simp only at hsi hci hgi h;have key:∃ Hj',bl Ty oj.dst oj.op O H n=some (u,Hj',n)/\bl Ty oi.dst oi.op O Hj' n=some (v,Hj,n):=by
    rcases gS hki hci with ki | ki | ki
    ·obtain⟨rfl,_,hall⟩:=jL ki hsi;exact⟨Hj,hsj,hall Hj n⟩
    ·obtain⟨rfl,_,_⟩:=fw (H2:=H) (n2:=n) ki hci (fun _ _=>rfl) hsi;rcases gS hkj hcj with kj | kj | kj
     ·obtain⟨rfl,_,hall⟩:=jL kj hsj;exact⟨_,hsj,hsi⟩
     ·obtain⟨rfl,_,_⟩:=fw (H2:=Hi) (n2:=n) kj hcj (fun _ _=>rfl) hsj;exact⟨_,hsj,hsi⟩
     ·obtain⟨id,ob,ob',_,e1,e2,rfl,_,_⟩:=jV kj hcj hsj;refine⟨_,hsj,?_⟩;exact (fw ki hci (fun id' hid=>ax.aY _ _ (by rintro rfl;omega)) hsi).2.2
    ·obtain⟨id,ob,ob',_,e1,e2,rfl,_,hall⟩:=jV ki hci hsi;rcases gS hkj hcj with kj | kj | kj
     ·obtain⟨rfl,_,hall'⟩:=jL kj hsj;exact⟨H,hall' H n,hsi⟩
     ·obtain⟨rfl,_,hst⟩:=fw (H2:=H) (n2:=n) kj hcj (fun id' hid=>(ax.aY _ _ (by rintro rfl;omega)).symm) hsj;exact⟨H,hst,hsi⟩
     ·rw[ki,kj] at hc;simp[qF] at hc
   obtain⟨Hj',k1,k2⟩:=key;exact .inr (.inl ⟨hgj,hkj,hcj,u,Hj',k1,.inr (.inl ⟨by simpa only [gi] using hgi,hki,by simpa only [ci] using hci,v,Hj,by simpa only [si] using k2,by simpa only [pc] using h⟩)⟩)
  ·
   simp only[gj] at hgj;rw[hd'] at pc gi si ci;refine .inr (.inr ⟨hgj,t',k',i',hop',hd',hT',fun a ha hf=>?_⟩);simp only at hsi hci hgi h hf;rcases gS hki hci with ki | ki | ki
   ·obtain⟨rfl,_,hall⟩:=jL ki hsi;exact .inr (.inl ⟨by simpa only [gi] using hgi,hki,by simpa only [ci] using hci,v,_,by simpa only [si] using hall _ _,by simpa only [pc] using h a ha hf⟩)
   ·obtain⟨rfl,_,_⟩:=fw (H2:=H) (n2:=n) ki hci (fun _ _=>rfl) hsi;have hst:=(fw (n2:=max n (a+1)) ki hci (fun id' hid=>ax.aY Hi ⟨i'.zero.length,[i'.zero.map .v]⟩ (i:=(a,k')) (by rintro rfl;simp only at hid;omega)) hsi).2.2;exact .inr (.inl ⟨by simpa only [gi] using hgi,hki,by simpa only [ci] using hci,v,_,by simpa only [si] using hst,by simpa only [pc] using h a ha hf⟩)
   ·obtain⟨id,ob,ob',_,e1,e2,rfl,_,hall⟩:=jV ki hci hsi;have hne:id ≠ (a,k'):=by rintro rfl;rw[hf k'] at e2;cases e2
    have hf':∀ j,(H.set id ob') (a,j)=none:=fun j=>by
     rw[ax.aY _ _ (by rintro rfl;rw[hf j] at e2;cases e2)];exact hf j
    have hst:=hall (H.set (a,k') ⟨i'.zero.length,[i'.zero.map .v]⟩) (max n (a+1)) (by rw[ax.aY _ _ hne];exact e2);have hfin:=h a ha hf';rw[set_comm _ _ hne] at hfin;exact .inr (.inl ⟨by simpa only [gi] using hgi,hki,by simpa only [ci] using hci,v,_,by simpa only [si] using hst,by simpa only [pc] using hfin⟩)
 ·
  simp only at hgi h;rw[hd] at pc gj sj cj;have hf0:∀ j,H (n,j)=none:=fun j=>Bf hb j
  have hn0:n0<=n:=hb.1;have hi3:cS oi.op=3:=by rw[hop];rfl
  rcases h n hn0 hf0 with ⟨hgj,_⟩ | ⟨hgj,hkj,hcj,u,Hj,hsj,_⟩ | ⟨hgj,t',k',i',hop',hd',hT',_⟩
  ·simp only[gj] at hgj;refine .inl ⟨hgj,.inr (.inr ⟨by simpa only [gi] using hgi,t,k,i,hop,hd,hT,fun a ha hf=>?_⟩)⟩;rcases h a ha hf with ⟨_,h⟩ | ⟨hg,_⟩ | ⟨hg,_⟩
   ·simpa only [pc] using h
   ·simp only[gj,hgj] at hg;cases hg
   ·simp only[gj,hgj] at hg;cases hg
  ·simp only[gj,cj,sj] at hgj hcj hsj;have back:∀ a,n0<=a->(∀ j,H (a,j)=none)->∃ ua Ha,bl Ty oj.dst oj.op O (H.set (a,k) ⟨i.zero.length,[i.zero.map .v]⟩) (max n (a+1))=some (ua,Ha,max n (a+1))/\R ((O.put (some k) (.ptr (a,k) 1 0 0)).put oj.dst ua,Ha,max n (a+1)):=by
    intro a ha hf;rcases h a ha hf with ⟨hg,_⟩ | ⟨_,_,_,ua,Ha,hs,hR⟩ | ⟨_,t',_,_,hop',_⟩
    ·simp only[gj,hgj] at hg;cases hg
    ·simp only[sj] at hs;exact⟨ua,Ha,hs,hR⟩
    ·exact absurd (by rw[hop'];rfl) hkj
   have hout:∀ (a:Nat) (id':Id),n0<=a->id'.1<n0->(H.set (a,k) ⟨i.zero.length,[i.zero.map .v]⟩) id'=H id':=fun a id' ha hid=>ax.aY _ _ (by rintro rfl;simp only at hid;omega)
   rcases gS hkj hcj with kj | kj | kj
   ·obtain⟨rfl,_,hall⟩:=jL kj hsj;refine .inr (.inl ⟨hgj,hkj,hcj,u,H,hall H n,.inr (.inr ⟨by simpa only [gi] using hgi,t,k,i,hop,hd,hT,fun a ha hf=>?_⟩)⟩);obtain⟨ua,Ha,hs,hR⟩:=back a ha hf;rw[hall] at hs;cases hs;simpa only [pc] using hR
   ·have hst:=(fw (H2:=H) (n2:=n) kj hcj (fun id' hid=>(hout n id' hn0 hid).symm) hsj).2.2;refine .inr (.inl ⟨hgj,hkj,hcj,u,H,hst,.inr (.inr ⟨by simpa only [gi] using hgi,t,k,i,hop,hd,hT,fun a ha hf=>?_⟩)⟩);obtain⟨ua,Ha,hs,hR⟩:=back a ha hf;have hst2:=(fw (H2:=H.set (a,k) ⟨i.zero.length,[i.zero.map .v]⟩) (n2:=max n (a+1)) kj hcj (fun id' hid=>hout a id' ha hid) hst).2.2;rw[hst2] at hs;cases hs;simpa only [pc] using hR
   ·obtain⟨id,o1,o1',t1,_,e2,rfl,_,hall⟩:=jV kj hcj hsj;obtain⟨u2,H2,hs2,_⟩:=back (n+1) (by omega) (fun j=>by
     cases hx:H (n+1,j) with
     | none=>rfl
     | some o=>have:=hb.2 (n+1,j) o hx;simp only at this;omega)
    obtain⟨id2,o2,o2',t2,_,e2',_⟩:=jV kj hcj hs2;rw[t1] at t2;cases t2;have hne:id ≠ (n,k):=by
     rintro rfl;rw[ax.aY _ _ (by intro he;have:=congrArg Prod.fst he;simp only at this;omega),hf0 k] at e2';cases e2'
    rw[ax.aY _ _ hne] at e2;refine .inr (.inl ⟨hgj,hkj,hcj,u,H.set id o1',hall H n e2,.inr (.inr ⟨by simpa only [gi] using hgi,t,k,i,hop,hd,hT,fun a ha hf=>?_⟩)⟩);simp only at hf ⊢;have hf':∀ j,H (a,j)=none:=fun j=>by
     have:=hf j
     by_cases he:(a,j)=id
     ·rw[he,ax.bS] at this;cases this
     ·rwa [ax.aY _ _ he] at this
    have hne':id ≠ (a,k):=by
     rintro rfl;rw[hf' k] at e2;cases e2
    obtain⟨ua,Ha,hs,hR⟩:=back a ha hf';rw[hall _ _ (by rw[ax.aY _ _ hne'];exact e2)] at hs;cases hs;rw[set_comm _ _ hne',<- pc];exact hR
  ·simp only[gj] at hgj;rw[hd'] at pc gi;refine .inr (.inr ⟨hgj,t',k',i',hop',hd',hT',fun b hb' hfb=>.inr (.inr ⟨by simpa only [gi] using hgi,t,k,i,hop,hd,hT,fun a ha hfa=>?_⟩)⟩);simp only at hfa ⊢;have hab:a ≠ b:=by
    rintro rfl;have:=hfa k';rw[ax.bS] at this;cases this
   have hfa':∀ j,H (a,j)=none:=fun j=>by
    have:=hfa j
    rwa [ax.aY _ _ (by intro he;exact hab (congrArg Prod.fst he))] at this
   rcases h a ha hfa' with ⟨hg,_⟩ | ⟨_,hk3,_⟩ | ⟨_,t2,k2,i2,hop2,hd2,hT2,h2'⟩
   ·simp only[gj,hgj] at hg;cases hg
   ·exact absurd (by rw[hop'];rfl) hk3
   ·rw[hop'] at hop2;cases hop2;rw[hd'] at hd2;cases hd2;rw[hT'] at hT2;cases hT2;have hfin:=h2' b hb' (fun j=>by simp only;rw[ax.aY _ _ (by intro he;exact hab (congrArg Prod.fst he).symm)];exact hfb j);simp only at hfin;rw[set_comm _ _ (by intro he;exact hab (congrArg Prod.fst he)),pc] at hfin;have hm:max (max n (b+1)) (a+1)=max (max n (a+1)) (b+1):=by omega
    rw[hm];exact hfin
theorem vl.some_ {o:Oper} {s:AS} {q:Prop} (hb:Bd n0 s) (h:vl Ty ops n0 o s fun _=>q):q:=by
 rcases h with ⟨_,h⟩ | ⟨_,_,_,_,_,_,h⟩ | ⟨_,_,_,_,_,_,_,h⟩
 ·exact h
 ·exact h
 ·exact h s.2.2 hb.1 (fun j=>Bf hb j)
variable (Ty ops n0) in
def o4 (R:AS->Prop):Nat->Array Bool->AS->Prop
 | 0,listed,s=>Region.ready .any ops listed=[]/\R s
 | fuel+1,listed,s=>(Region.ready .any ops listed=[]->R s)/\∀ i ∈ Region.ready .any ops listed,∃ o,ops[i]?=some o/\vl Ty ops n0 o s (o4 R fuel (listed.setIfInBounds i true))
variable (Ty ops n0) in
def Ii (R:AS->Prop):List Oper->AS->Prop
 | [],s=>R s
 | o::l,s=>vl Ty ops n0 o s (Ii R l)
theorem o4.first {R:AS->Prop} {i:Nat} {oi:Oper} (hi:ops[i]?=some oi) (al:List Nat) (hD:∀ j oj,ops[j]?=some oj->j ∈ al->j ≠ i->∃ e ∈ oj.after,Region.binds .any e=true/\e.on ∈ al):∀ (fuel:Nat) (listed:Array Bool) (s:AS),Bd n0 s ->
  (∀ j ∈ al,listed.getD j true=false)->(∀ j oj,ops[j]?=some oj->j ≠ i->listed.getD j true=false->j ∉ al->oi.apart ops oj=true/\qF (cS oi.op) (cS oj.op)=true) ->
  i ∈ Region.ready .any ops listed->vl Ty ops n0 oi s (o4 Ty ops n0 R fuel (listed.setIfInBounds i true))->o4 Ty ops n0 R (fuel+1) listed s:=by
 intro fuel
 induction fuel with
 | zero=>
  intro listed s hb _ _ hr H;refine⟨fun h=>(by rw[h] at hr;cases hr),fun j hj=>?_⟩
  by_cases hji:j=i
  ·subst hji;exact⟨oi,hi,H⟩
  ·have:=ready_mono hj hji;have h0:Region.ready .any ops (listed.setIfInBounds i true)=[]:=vl.some_ hb (H.mono fun s' h=>h.1);rw[h0] at this;cases this
 | succ fuel ih=>
  intro listed s hb hinv hfree hr H;refine⟨fun h=>(by rw[h] at hr;cases hr),fun j hj=>?_⟩
  by_cases hji:j=i
  ·subst hji;exact⟨oi,hi,H⟩
  ·obtain⟨hjun,oj,hoj,hall⟩:=mem_ready.1 hj;have hnot:j ∉ al:=fun hd=>by
    obtain⟨e,he,hb',hed⟩:=hD j oj hoj hd hji;have h1:=hall e he hb';have h0:=hinv e.on hed;rcases Nat.lt_or_ge e.on listed.size with h' | h'
    ·simp[h'] at h0 h1;rw[h0] at h1;cases h1
    ·simp[Array.getElem?_eq_none h'] at h1
   obtain⟨hap,hco⟩:=hfree j oj hoj hji hjun hnot;have H2:vl Ty ops n0 oi s fun s'=>vl Ty ops n0 oj s' (o4 Ty ops n0 R fuel ((listed.setIfInBounds i true).setIfInBounds j true)):=H.mono fun s' h=>by
    obtain⟨oj',hoj',h'⟩:=h.2 j (ready_mono hj hji);rw[hoj] at hoj';cases hoj';exact h'
   refine⟨oj,hoj,(vl.bd hb (vl.swap hap hco hb H2)).mono fun sj ⟨hbj,hsj⟩=>ih (listed.setIfInBounds j true) sj hbj (fun k hk=>?_) (fun k ok hk hki hun hno=>?_) (ready_mono hr (Ne.symm hji)) ?_⟩
   ·have hjk:j ≠ k:=fun he=>hnot (he ▸ hk)
    rw[getD_set_ne true hjk];exact hinv k hk
   ·refine hfree k ok hk hki ?_ hno
    by_cases hjk:j=k
    ·subst hjk;exact hjun
    ·rw[getD_set_ne true hjk] at hun;exact hun
   ·rw[Array.setIfInBounds_comm _ _ hji];exact hsj
variable (ops) in
def fk (listed:Array Bool) (i:Nat):Bool:=
 match ops[i]? with
 | none=>false
 | some oi=>((behind ops i).all fun j => !(listed.getD j true) && match ops[j]? with
   | none=>true
   | some oj=>j == i || oj.after.any (fun e=>Region.binds .any e && (behind ops i).contains e.on)) &&
  (List.range ops.size).all fun j=>match ops[j]? with
  | none=>true
  | some oj=>j == i || listed.getD j true || (behind ops i).contains j || (oi.apart ops oj && qF (cS oi.op) (cS oj.op))
variable (ops) in
def GO:Nat->Nat->Array Bool->Bool
 | 0,_,listed=>(Region.ready .any ops listed).isEmpty
 | fuel+1,k,listed=>(Region.ready .any ops listed).contains k && fk ops listed k && GO fuel (k+1) (listed.setIfInBounds k true)
variable (ops) in
def z7:Bool:=GO ops ops.size 0 (Array.replicate ops.size false)
theorem Bw {listed:Array Bool} {i:Nat} {oi:Oper} (hi:ops[i]?=some oi) (h:fk ops listed i=true) :
  (∀ j oj,ops[j]?=some oj->j ∈ behind ops i->j ≠ i->∃ e ∈ oj.after,Region.binds .any e=true/\e.on ∈ behind ops i)/\(∀ j ∈ behind ops i,listed.getD j true=false) /\
  ∀ j oj,ops[j]?=some oj->j ≠ i->listed.getD j true=false->j ∉ behind ops i->oi.apart ops oj=true/\qF (cS oi.op) (cS oj.op)=true:=by
 unfold fk at h;simp only[hi,Bool.and_eq_true] at h;obtain⟨h1,h2⟩:=h;refine⟨fun j oj hj hd hji=>?_,fun j hd=>?_,fun j oj hj hji hun hno=>?_⟩
 ·have:=List.all_eq_true.1 h1 j hd;simp only[hj,Bool.and_eq_true,Bool.or_eq_true,beq_iff_eq] at this;rcases this.2 with h3 | h3
  ·exact absurd h3 hji
  ·obtain⟨e,he,hb⟩:=Array.any_eq_true'.1 h3;simp only[Bool.and_eq_true,List.contains_iff_mem] at hb;exact⟨e,he,hb.1,hb.2⟩
 ·have:=List.all_eq_true.1 h1 j hd;simp only[Bool.and_eq_true,Bool.not_eq_true'] at this;exact this.1
 ·have hlt:j<ops.size:=(Array.getElem?_eq_some_iff.1 hj).1;have:=List.all_eq_true.1 h2 j (List.mem_range.2 hlt);simp only[hj,hun,Bool.or_false,Bool.or_eq_true,beq_iff_eq,Bool.and_eq_true,List.contains_iff_mem] at this;rcases this with (h1 | h1) | h1
  ·exact absurd h1 hji
  ·exact absurd h1 hno
  ·exact h1
theorem o4.lex {R:AS->Prop}:∀ (l:List Oper) (k:Nat) (listed:Array Bool) (s:AS),Bd n0 s->(∀ j:Nat,l[j]?=ops[k+j]?)->GO ops l.length k listed=true->Ii Ty ops n0 R l s->o4 Ty ops n0 R l.length listed s
 | [],_,_,_,_,_,hB,h=>⟨by simpa[GO] using hB,h⟩
 | o::l,k,listed,s,hb,hl,hB,h=>by
  have h0:ops[k]?=some o:=by simpa using (hl 0).symm
  simp only[List.length_cons,GO,Bool.and_eq_true] at hB;obtain⟨⟨hr,hf⟩,hB'⟩:=hB;obtain⟨f1,f2,f3⟩:=Bw h0 hf;exact o4.first h0 (behind ops k) f1 l.length listed s hb f2 f3 (by simpa using hr)
   ((vl.bd hb h).mono fun s' ⟨hb',h'⟩=>o4.lex l (k+1) _ s' hb' (fun j=>by have:=hl (j+1);simpa[Nat.add_assoc,Nat.add_comm 1 j] using this) hB' h')
end
section
variable {P:Program} {N:Nat} {Ty:Types} {ops:Array Oper} {n0:Nat}
theorem o4.sound (hT:bg P Ty) {R:AS->Prop} (hN:ops.toList.all (fun o=>eF N o.dst)=true) {Q:Exit->Act->World->Prop} {c0:Ctx} (hQ:∀ a c O,bG c0 c->Good c->dy N c O a->R (O,c.H,c.n)->Q .normal a c.w) :
  ∀ (fuel:Nat) (listed:Array Bool) (O:Env) (c:Ctx) (a:Act),n0<=c.n->bG c0 c->Good c->dy N c O a->o4 Ty ops n0 R fuel listed (O,c.H,c.n)->wpAny P .any ops Q fuel listed a c.w
 | 0,_,_,_,_,_,hk,g,r,h=>⟨h.1,hQ _ _ _ hk g r h.2⟩
 | fuel+1,listed,O,c,a,hn0,hk,g,r,h=>by
  refine⟨fun h0=>hQ _ _ _ hk g r (h.1 h0),fun i hi=>?_⟩;obtain⟨o,ho,hst⟩:=h.2 i hi;have hd:eF N o.dst=true:=List.all_eq_true.1 hN o (by rw[<- Array.getElem?_toList] at ho;exact List.mem_of_getElem? ho);unfold wpOp;simp only[ho];rcases hst with ⟨hg,hrest⟩ | ⟨hg,hk3,hc,v,H',hs,hrest⟩ | ⟨hg,t,k,i',hop,hdst,hTy,hrest⟩
  ·rw[if_neg (by rw[cA r hN hg];simp)];exact o4.sound hT hN hQ fuel _ _ c _ hn0 hk g (r.put hd (.v _)) hrest
  ·rw[if_pos (cA r hN hg)];simp only at hs hrest;refine .inl (aL hT hs c a rfl rfl g r _ _ ?_);rintro v1 x c' ⟨rfl,hH,hn⟩ hrep hgood hkeep;exact o4.sound hT hN hQ fuel _ _ c' _ (by rw[hn];exact hn0) (hk.trans hkeep) hgood ((r.keeps hkeep).put hd hrep) (by rw[hH,hn];exact hrest)
  ·rw[if_pos (cA r hN hg)];have hs:bl Ty o.dst o.op O c.H c.n=some (.ptr (c.n,k) 1 0 0,c.H.set (c.n,k) ⟨i'.zero.length,[i'.zero.map .v]⟩,c.n+1):=by rw[hop,hdst];simp only[bl,hTy]
   refine .inl (aL hT hs c a rfl rfl g r _ _ ?_);rintro v1 x c' ⟨rfl,hH,hn⟩ hrep hgood hkeep;have hr:=hrest c.n hn0 (fun j=>by
    show c.H (c.n,j)=none;cases hx:c.H (c.n,j) with
    | none=>rfl
    | some ob=>have:=g.stamp _ _ hx;simp only at this;omega)
   have hm:max c.n (c.n+1)=c.n+1:=by omega
   simp only[hm] at hr;rw[<- hdst] at hr;exact o4.sound hT hN hQ fuel _ _ c' _ (by rw[hn];omega) (hk.trans hkeep) hgood ((r.keeps hkeep).put hd hrep) (by rw[hH,hn];exact hr)
end
section
variable {P:Program} {f:FuncId} {N:Nat} {k:List Item} {O:Env} {H:ax} {n:Nat} {Q:au->ax->Nat->Prop} {Ty:Types}
theorem J.z7 (hT:bg P Ty) {id:Nat} {ops:List Oper} (hm:P.follows .mixedOrders=true) (hN:ops.all (fun o=>eF N o.dst)=true) (hB:z7 ops.toArray=true)
  (h:Ii Ty ops.toArray n (fun s=>J P f N k s.1 s.2.1 s.2.2 Q) ops (O,H,n)):J P f N (.code (.region id ops.toArray true)::k) O H n Q:=by
 intro c a hH hn g r b cs hf hk;subst hH;subst hn;obtain⟨d1,d2⟩:=jU g;have hany:=o4.lex (Ty:=Ty) (ops:=ops.toArray) (n0:=c.n) ops 0 (Array.replicate ops.toArray.size false) (O,c.H,c.n) ⟨Nat.le_refl _,fun id o ho=>g.stamp id o ho⟩ (by simp) (by simpa[Ab.z7] using hB) h;have hw:(Code.region id ops.toArray true).wp P (fun e a' w'=>e = .normal/\∃ c' ρ',c'.w=w'/\bG c c'/\Good c'/\dy N c' ρ' a'/\J P f N k ρ' c'.H c'.n Q) a c.w:=by
  refine wp_region_any hm ?_;have:=o4.sound (P:=P) (N:=N) (Ty:=Ty) (ops:=ops.toArray) (n0:=c.n) (c0:=c) hT (by simpa using hN) (Q:=fun e a' w'=>e = .normal/\∃ c' ρ',c'.w=w'/\bG c c'/\Good c'/\dy N c' ρ' a'/\J P f N k ρ' c'.H c'.n Q)
   (R:=fun s=>J P f N k s.1 s.2.1 s.2.2 Q) (fun a' c' ρ' V hg' hr' hR=>⟨rfl,c',ρ',rfl,V,hg',hr',hR⟩) ops.length (Array.replicate ops.toArray.size false) O { c with w:={ c.w with drawn:=c.w.drawn+1 } } a (Nat.le_refl _) d1 d2 (r.keeps d1) hany
  simpa using this
 obtain⟨e,a',w',⟨rfl,c',ρ',rfl,V,hg',hr',hR⟩,harr⟩:=hw b k cs;obtain⟨x,v,c'',fr,q,hr,hg,hke,hst,rest⟩:=hR c' a' rfl rfl hg' hr' b cs hf hk;exact⟨x,v,c'',fr,q,hr,hg,V.trans hke,Steps.trans harr hst,rest⟩
end
def Fz (Ty:Types) (d:Option Nat):Op->Option (Nat × Ob)
 | .alloc t=>match d,Ty t with
  | some k,some i=>some (k,⟨i.zero.length,[i.zero.map .v]⟩)
  | _,_=>none
 | _=>none
section
variable (P:Program) (f:FuncId) (N:Nat) (k:List Item) (Q:au->ax->Nat->Prop) (Ty:Types) (ops:Array Oper) (n0:Nat)
def k6:List Oper->Env->ax->Nat->Prop
 | [],O,H,n=>J P f N k O H n Q
 | o::l,O,H,n=>
  match gG ops o O with
  | some false=>k6 l (O.put o.dst o7) H n
  | some true=>match Fz Ty o.dst o.op with
   | some (j,ob)=>∀ a,n0<=a->(∀ q,H (a,q)=none)->k6 l (O.put (some j) (.ptr (a,j) 1 0 0)) (H.set (a,j) ob) (max n (a+1))
   | none=>match bl Ty o.dst o.op O H n with
    | some (v,H',_)=>eM n0 o.op O/\k6 l (O.put o.dst v) H' n
    | none=>False
  | none=>False
end
section
variable {P:Program} {f:FuncId} {N:Nat} {k:List Item} {O:Env} {H:ax} {n:Nat} {Q:au->ax->Nat->Prop} {Ty:Types} {ops:Array Oper} {n0:Nat}
theorem EN {d:Option Nat} {op:Op} {v:au} {H':ax} {n':Nat} (h:Fz Ty d op=none) (hs:bl Ty d op O H n=some (v,H',n')):cS op ≠ 3:=by
 cases op with
 | alloc t=>
  simp only[bl] at hs
  split at hs
  ·rename_i k' i hi
   simp only[Fz,hi] at h;cases h
  ·cases hs
 | call c=>
  obtain⟨cal,args,ats⟩:=c;cases cal with
  | builtin b=>cases b<;>simp[cS]
  | _=>simp[cS]
 | buildSlice t len ps=>
  unfold cS;simp only
  by_cases h0:len=0<;>simp[h0]
 | _=>simp[cS]
theorem kF:∀ (l:List Oper) (O:Env) (H:ax) (n:Nat),k6 P f N k Q Ty ops n0 l O H n->Ii Ty ops n0 (fun s=>J P f N k s.1 s.2.1 s.2.2 Q) l (O,H,n)
 | [],_,_,_,h=>h
 | o::l,O,H,n,h=>by
  rw[k6] at h
  split at h
  ·rename_i hg
   exact .inl ⟨hg,kF l _ _ _ h⟩
  ·rename_i hg
   split at h
   ·rename_i j ob hnew
    unfold Fz at hnew
    split at hnew
    ·rename_i t hop
     split at hnew
     ·rename_i k' i hdst hTy
      cases hnew;exact .inr (.inr ⟨hg,t,_,_,hop,hdst,hTy,fun a ha hf=>kF l _ _ _ (h a ha hf)⟩)
     ·cases hnew
    ·cases hnew
   ·rename_i hnew
    split at h
    ·rename_i v H' n' hs
     have hk3:=EN hnew hs;obtain⟨hc,h⟩:=h;have hn:n'=n:=by
      rcases gS hk3 hc with hk | hk | hk
      ·exact (jL hk hs).2.1
      ·exact (fw (H2:=H) (n2:=n) hk hc (fun _ _=>rfl) hs).2.1
      ·obtain⟨_,_,_,_,_,_,_,e,_⟩:=jV hk hc hs;exact e
     subst hn;exact .inr (.inl ⟨hg,hk3,hc,v,H',hs,kF l _ _ _ h⟩)
    ·exact h.elim
  ·exact h.elim
@[simp] theorem evalN_nil : k6 P f N k Q Ty ops n0 [] O H n = J P f N k O H n Q := by rw [k6]
@[simp] theorem evalN_cons {o : Oper} {l : List Oper} : k6 P f N k Q Ty ops n0 (o :: l) O H n = (match gG ops o O with
  | some false=>k6 P f N k Q Ty ops n0 l (O.put o.dst o7) H n
  | some true=>match Fz Ty o.dst o.op with
   | some (j,ob)=>∀ a,n0<=a->(∀ q,H (a,q)=none)->k6 P f N k Q Ty ops n0 l (O.put (some j) (.ptr (a,j) 1 0 0)) (H.set (a,j) ob) (max n (a+1))
   | none=>match bl Ty o.dst o.op O H n with
    | some (v,H',_)=>eM n0 o.op O/\k6 P f N k Q Ty ops n0 l (O.put o.dst v) H' n
    | none=>False
  | none=>False):=by rw[k6]
theorem J.seqN (hT:bg P Ty) {id:Nat} {ops:List Oper} {y:Code} (hm:P.follows .mixedOrders=true) (hN:ops.all (fun o=>eF N o.dst)=true) (hB:Ab.z7 ops.toArray=true)
  (h:∀ k':List Item,(∀ O H n,J P f N (.code y::k) O H n Q->J P f N k' O H n Q)->k6 P f N k' Q Ty ops.toArray n ops O H n):J P f N (.code (.seq (.region id ops.toArray true) y)::k) O H n Q:=
 J.seq (J.z7 hT hm hN hB (kF ops _ _ _ (h (.code y::k) fun _ _ _ h=>h)))
end
attribute [simp] gG eM F3 Fz cS
end Go.Ab
namespace Go.Ab.Vg
open Go.Proofs
set_option maxRecDepth 100000
attribute [local simp] Control.cells ay.cells aD.cells aA cp gL aT bC mC pA
theorem qt (l:List Int) (x:Int) (h:l.length<=1048576):aF prog 94 [.list false (l.map aA),int x] (fun r=>r=bool (lg l x)):=Aj l x h
theorem lB (l:List Int) (x:Int) (h:l.length<=1048576):aF prog 85 [.list false (l.map aA),int x] (fun r=>r=bool (lg l x)):=HQ l x h
theorem e149:a8 prog 149:=a8.of func149 (by kernel_rfl) rfl
theorem yk (b:aG) (place:Int) (nodes:List Int) (Z:Bool->Prop) (h:mz b place nodes Z):aF prog 149 [.agg (bC false b),int place,.list false (nodes.map aA)] (fun r=>∃ y:Bool,Z y/\r=bool y):=by
 unfold mz at h;refine aF.of func149 rfl ntmps149 (by simp) fun Q hQ=>?_
 refine J.cut (fun O H n=>(O 0 = .agg (bC false b)/\O 1=int place/\O 2 = .list false (nodes.map aA))) (by simp) ?_;rintro O H U E;refine zE fun _ V=>?_
 simp[E];apply V;refine J.cut (fun O H n=>(O 1=int place/\O 2 = .list false (nodes.map aA)/\O 3=pA U 3)/\H (U,3)=some ⟨6,[bC false b]⟩) (by refine⟨?_,?_⟩<;>simp[E]) ?_;clear E;rintro O H n3 ⟨E,a⟩;apply J.seq;apply J.block;refine J.aI h (fun (sJ:Int) O H n=>match sJ with | placeV6=>(O 1=int placeV6/\O 2 = .list false (nodes.map aA)/\O 3=pA U 3)/\H (U,3)=some ⟨6,[bC false b]⟩) (by refine⟨?_,?_⟩<;>simp[E,a]) ?_;clear E a;rintro placeV6 O H n7 K h ⟨E,a⟩ IH8;refine zS fun _ V=>?_
 obtain⟨e,g,h⟩:=aE h;have f11:=kK (k:=.i64) g;simp[E,a,f11,-aw];apply V;refine J.ite (b:=e) (by simp[E,a]) (fun c=>?_) (fun c=>?_)
 ·replace h:=h.1 c;apply zK;apply J.block;refine zE fun _ V=>?_
  obtain⟨i,h⟩:=h;obtain⟨j,l,h⟩:=aE h;simp[E,a,c];refine zA (qt nodes placeV6 i) e94 (.cons (ef false nodes) (.cons (.v _ _ _) .nil)) (by simp[E,a,c]) ?_;rintro _ rfl;rw[<- l];simp[E,a,c];apply V;refine J.ite (b:=j) (by simp[E,a,c]) (fun d=>?_) (fun d=>?_)
  ·replace h:=h.1 d;refine zE fun _ V=>?_
   simp[E,a,c,d];apply V;exact J.bj (v:=bool true) func149 results149 (by simp[E,a,c,d]) (hQ _ _ _ _ (.of (.v _)) ⟨true,h,rfl⟩)
  replace h:=h.2 d;apply J.skip;refine zI fun _ V=>?_
  obtain⟨o,h⟩:=h;obtain⟨p,q,h⟩:=aE h;have f16:=fun H=>aO (H:=H) (fr:=false) (f:=(ay.cells false)) (k:=.i64) bH (fun _=>rfl) o q
  simp[E,a,f16,c,d,-av];apply V;refine IH8 (p.parent) _ _ _ h (by refine⟨?_,?_⟩<;>simp[E,a,c,d])
 replace h:=h.2 c;refine J.exit rfl ?_;refine zE fun _ V=>?_
 simp[E,a,c];apply V;exact J.bj (v:=bool false) func149 results149 (by simp[E,a,c]) (hQ _ _ _ _ (.of (.v _)) ⟨false,h,rfl⟩)
theorem qb (b:aG) (place:Int) (nodes:List Int) (hp:iv b place nodes):aF prog 149 [.agg (bC false b),int place,.list false (nodes.map aA)] (fun r=>r=bool (lV b place nodes)):=(yk b place nodes _ (Ct b place nodes hp)).mono (by rintro _ ⟨_,rfl,rfl⟩;rfl)
theorem e87:a8 prog 87:=a8.of func87 (by kernel_rfl) rfl
theorem vI (I:aG) (m:Match) (place:Int) (Z:Bool->Prop) (h:ka I m place Z):aF prog 87 [.agg (bC false I),.agg (mC false m),int place] (fun r=>∃ y:Bool,Z y/\r=bool y):=by
 unfold ka at h;refine aF.of func87 rfl ntmps87 (by simp) fun Q hQ=>?_
 refine J.cut (fun O H n=>(O 0 = .agg (bC false I)/\O 1 = .agg (mC false m)/\O 2=int place)) (by simp) ?_;rintro O H U E;refine zE fun _ V=>?_
 simp[E];apply V;refine J.cut (fun O H n=>(O 2=int place/\O 3=pA U 3/\O 4=pA (U+1) 4)/\H (U,3)=some ⟨6,[bC false I]⟩/\H (U+1,4)=some ⟨2,[mC false m]⟩) (by refine⟨?_,?_,?_⟩<;>simp[E]) ?_;clear E;rintro O H n4 ⟨E,a,c⟩;apply J.seq;apply J.block;refine J.aI h (fun (sJ:Int) O H n=>match sJ with | placeV7=>(O 2=int placeV7/\O 3=pA U 3/\O 4=pA (U+1) 4)/\H (U,3)=some ⟨6,[bC false I]⟩/\H (U+1,4)=some ⟨2,[mC false m]⟩) (by refine⟨?_,?_,?_⟩<;>simp[E,a,c]) ?_;clear E a c;rintro placeV7 O H n8 K h ⟨E,a,c⟩ IH9;refine zS fun _ V=>?_
 obtain⟨g,i,h⟩:=aE h;have f12:=kK (k:=.i64) i;simp[E,a,c,f12,-aw];apply V;refine J.ite (b:=g) (by simp[E,a,c]) (fun d=>?_) (fun d=>?_)
 ·replace h:=h.1 d;apply J.skip;apply J.block;refine zS fun _ V=>?_
  obtain⟨j,h⟩:=h;obtain⟨l,o,h⟩:=aE h;simp[E,a,c,d];refine zA (lB m.nodes placeV7 j) e85 (.cons (ef false m.nodes) (.cons (.v _ _ _) .nil)) (by simp[E,a,c,d]) ?_;rintro _ rfl;rw[<- o];simp[E,a,c,d];apply V;refine J.ite (b:=l) (by simp[E,a,c,d]) (fun e=>?_) (fun e=>?_)
  ·replace h:=h.1 e;refine zE fun _ V=>?_
   simp[E,a,c,d,e];apply V;exact J.bj (v:=bool true) func87 results87 (by simp[E,a,c,d,e]) (hQ _ _ _ _ (.of (.v _)) ⟨true,h,rfl⟩)
  replace h:=h.2 e;apply J.skip;refine zF fun _ V=>?_
  obtain⟨p,h⟩:=h;obtain⟨q,t,h⟩:=aE h;have f17:=fun H=>aO (H:=H) (fr:=false) (f:=(ay.cells false)) (k:=.i64) bH (fun _=>rfl) p t
  simp[E,a,c,f17,d,e,-av];apply V;apply J.inBlock;refine IH9 (q.parent) _ _ _ h (by refine⟨?_,?_,?_⟩<;>simp[E,a,c,d,e])
 replace h:=h.2 d;refine J.exit rfl ?_;refine zE fun _ V=>?_
 simp[E,a,c,d];apply V;exact J.bj (v:=bool false) func87 results87 (by simp[E,a,c,d]) (hQ _ _ _ _ (.of (.v _)) ⟨false,h,rfl⟩)
theorem nE (I:aG) (m:Match) (place:Int) (hp:gh I m place):aF prog 87 [.agg (bC false I),.agg (mC false m),int place] (fun r=>r=bool (fE I m place)):=(vI I m place _ (Ar I m place hp)).mono (by rintro _ ⟨_,rfl,rfl⟩;rfl)
theorem e193:a8 prog 193:=a8.of func193 (by kernel_rfl) rfl
theorem sN {H0:ax} {n0:Nat} {X1:Id} (c:Int) (v_:Match) (hX1:H0 X1=some ⟨2,[mC false v_]⟩) (Z:Bool->Prop) (h:gV c v_ Z):gI prog H0 n0 (.fn (.func 193) [] [.ptr X1 1 0 0]) [int c] (fun r=>∃ y:Bool,Z y/\r=bool y):=by
 unfold gV at h;refine⟨193,[],[.ptr X1 1 0 0],rfl,e193,?_⟩;refine dw.of func193 rfl ntmps193 (by simp) fun Q hB hQ=>?_
 have lX1:X1.1<n0:=(hB X1 _ hX1).1;have neX1:∀ m d,n0<=m->(X1=(m,d))=False:=fun m d hm=>by simp only[eq_iff_iff,iff_false];rintro rfl;simp at lX1;omega
 have hfr:Frame n0 H0 H0:=Frame.refl _ _;have hn0:n0<=n0:=Nat.le_refl _;refine J.cut (fun O H n=>(O 0=int c/\O 1 = .ptr X1 1 0 0)/\H X1=some ⟨2,[mC false v_]⟩/\n0<=n/\Frame n0 H0 H) (by refine⟨?_,?_,?_,?_⟩<;>first | ((repeat (first | exact hfr | refine Frame.set (by first | omega | (simp;omega)) ?_));done) | omega | simp[hX1]) ?_;rintro O H U ⟨E,mX1,hn0,hfr⟩;have hn1:=Nat.le_succ_of_le hn0;have hn2:=Nat.le_succ_of_le hn1;refine zE fun _ V=>?_
 simp[E,mX1,hn0,hn1,hn2,neX1];apply V;refine zE fun _ V=>?_
 obtain⟨hb2,h⟩:=h;obtain⟨r3,er3,h⟩:=aE h;simp[E,mX1,hn0,hn1,hn2,neX1];refine zA (qt v_.nodes c hb2) e94 (.cons (ef false v_.nodes) (.cons (.v _ _ _) .nil)) (by simp[E,mX1,hn0,hn1,hn2,neX1]) ?_;rintro _ rfl;rw[<- er3];simp[E,mX1,hn0,hn1,hn2,neX1];apply V;exact J.bj (v:=bool (!r3)) func193 results193 (by simp[E,mX1,hn0,hn1,hn2,neX1]) (hQ _ _ _ _ (.mY (.v _)) (hfr) ⟨(!r3),h,rfl⟩)
theorem pf {H0:ax} {n0:Nat} {X1:Id} (c:Int) (v_:Match) (hX1:H0 X1=some ⟨2,[mC false v_]⟩) (hp:ea c v_):gI prog H0 n0 (.fn (.func 193) [] [.ptr X1 1 0 0]) [int c] (fun r=>r=bool (dS c v_)):=(sN c v_ hX1 _ (vP c v_ hp)).mono (by rintro _ ⟨_,rfl,rfl⟩;rfl)
theorem e150:a8 prog 150:=a8.of func150 (by kernel_rfl) rfl
theorem vd (ar:aG) (I:aG) (m:Match) (Z:Bool->Prop) (h:jk ar I m Z):aF prog 150 [.agg (bC false ar),.agg (bC false I),.agg (mC false m)] (fun r=>∃ y:Bool,Z y/\r=bool y):=by
 unfold jk at h;refine aF.of func150 rfl ntmps150 (by simp) fun Q hQ=>?_
 refine J.cut (fun O H n=>(O 0 = .agg (bC false ar)/\O 1 = .agg (bC false I)/\O 2 = .agg (mC false m))) (by first | (simp ;done) | omega | (simp;omega)) ?_;rintro O H U E;refine zE fun k' V=>?_
 simp[E];apply V;refine J.cut (fun O H n=>(O 3=pA U 3/\O 4=pA (U+1) 4/\O 5=pA (U+2) 5)/\H (U,3)=some ⟨6,[bC false ar]⟩/\H (U+1,4)=some ⟨6,[bC false I]⟩/\H (U+2,5)=some ⟨2,[mC false m]⟩/\U<n/\U+1<n/\U+2<n) (by refine⟨?_,?_,?_,?_,?_,?_,?_⟩<;>first | (simp[E];done) | omega | (simp;omega)) ?_;clear E;rintro O H n5 ⟨E,c,d,a,g3_1,g4_2,g5_3⟩;refine zS fun k' V=>?_
 obtain⟨dd,elen6,h⟩:=aE h;have f7:=fun H=>aN (H:=H) (fr:=false) (f:=(ay.cells false)) bH elen6
 simp[E,c,d,a,g3_1,g4_2,g5_3,f7,-aZ];apply V;apply J.block;refine J.aI h (fun (sJ:Int) O H n=>match sJ with | v10=>(O 3=pA U 3/\O 4=pA (U+1) 4/\O 5=pA (U+2) 5/\O 16 = .list false (ar.nodes.map (ay.cells false))/\O 17=int dd/\O 18=int v10)/\H (U,3)=some ⟨6,[bC false ar]⟩/\H (U+1,4)=some ⟨6,[bC false I]⟩/\H (U+2,5)=some ⟨2,[mC false m]⟩/\U<n/\U+1<n/\U+2<n) (by refine⟨?_,?_,?_,?_,?_,?_,?_⟩<;>first | (simp[E,c,d,a,g3_1,g4_2,g5_3];done) | omega | (simp;omega)) ?_;clear E c d a g3_1 g4_2 g5_3;rintro v10 O H n11 K h ⟨E,c,d,a,g3_1,g4_2,g5_3⟩ D;refine zE fun k' V=>?_
 obtain⟨ac,ad,h⟩:=aE h;have f15:=aX (k:=.i64) ad;simp[E,c,d,a,g3_1,g4_2,g5_3,f15,-aw];apply V;apply J.seq;refine J.ite (b:=ac) (by simp[E,c,d,a,g3_1,g4_2,g5_3]) (fun q=>?_) (fun q=>?_)
 ·replace h:=h.1 q;apply zK;apply J.block;refine zE fun k' V=>?_
  obtain⟨af,h⟩:=h;obtain⟨C,am,h⟩:=aE h;have f18:=fun H=>aO (H:=H) (fr:=false) (f:=(ay.cells false)) (k:=.i64) bH (fun _=>rfl) af am
  simp[E,c,d,a,g3_1,g4_2,g5_3,f18,q,-av];apply V;refine J.cut (fun O H n=>(O 3=pA U 3/\O 4=pA (U+1) 4/\O 5=pA (U+2) 5/\O 7=int v10/\O 8=pA n11 8/\O 16 = .list false (ar.nodes.map (ay.cells false))/\O 17=int dd/\O 18=int v10)/\H (U,3)=some ⟨6,[bC false ar]⟩/\H (U+1,4)=some ⟨6,[bC false I]⟩/\H (U+2,5)=some ⟨2,[mC false m]⟩/\H (n11,8)=some ⟨3,[[int C.control,int C.parent,.list false (C.links.map aA)]]⟩/\U<n/\U+1<n/\U+2<n/\n11<n) (by refine⟨?_,?_,?_,?_,?_,?_,?_,?_,?_⟩<;>first | (simp[E,c,d,a,g3_1,g4_2,g5_3,f18,q,-av];done) | omega | (simp;omega)) ?_;clear E c d a g3_1 g4_2 g5_3;rintro O H n20 ⟨E,c,d,a,e,g3_1,g4_2,g5_3,g8_18⟩;refine J.seqN aB bZ (by decide) (by kernel_rfl) fun k' V=>?_
  obtain⟨ao,h⟩:=h;obtain⟨ey,ap,h⟩:=aE h;have f23:=fun H=>aO (H:=H) (fr:=false) (f:=aA) (k:=.i64) aV (fun _=>rfl) ao ap
  obtain⟨aM,h⟩:=h;obtain⟨F,a0,h⟩:=aE h;have f26:=fun H=>aO (H:=H) (fr:=false) (f:=(ay.cells false)) (k:=.i64) bH (fun _=>rfl) aM a0
  simp[E,c,d,a,e,g3_1,g4_2,g5_3,g8_18,f23,f26,-av];intro G ha27 qa27;clear qa27;refine⟨ha27,V _ _ _ ?_⟩;refine J.cut (fun O H n=>(O 3=pA U 3/\O 4=pA (U+1) 4/\O 5=pA (U+2) 5/\O 7=int v10/\O 8=pA n11 8/\O 9 = .ptr (G,9) 1 0 0/\O 16 = .list false (ar.nodes.map (ay.cells false))/\O 17=int dd/\O 18=int v10)/\H (U,3)=some ⟨6,[bC false ar]⟩/\H (U+1,4)=some ⟨6,[bC false I]⟩/\H (U+2,5)=some ⟨2,[mC false m]⟩/\H (n11,8)=some ⟨3,[[int C.control,int C.parent,.list false (C.links.map aA)]]⟩/\H (G,9)=some ⟨3,[[int F.control,int F.parent,.list false (F.links.map aA)]]⟩/\U<n/\U+1<n/\U+2<n/\n11<n/\G<n) (by refine⟨?_,?_,?_,?_,?_,?_,?_,?_,?_,?_,?_⟩<;>first | (simp[E,c,d,a,e,g3_1,g4_2,g5_3,g8_18,f23,f26,-av];done) | omega | (simp;omega)) ?_;clear E c d a e g3_1 g4_2 g5_3 g8_18;rintro O H n28 ⟨E,c,d,a,e,j,g3_1,g4_2,g5_3,g8_18,g9_26⟩;refine zE fun k' V=>?_
  simp[E,c,d,a,e,j,g3_1,g4_2,g5_3,g8_18,g9_26];apply V;refine zS fun k' V=>?_
  obtain⟨a1,a2,h⟩:=aE h;have f30:=kK (k:=.i64) a2;simp[E,c,d,a,e,j,g3_1,g4_2,g5_3,g8_18,g9_26,f30,-aw];apply V;refine J.ite (b:=a1) (by simp[E,c,d,a,e,j,g3_1,g4_2,g5_3,g8_18,g9_26]) (fun l=>?_) (fun l=>?_)
  ·replace h:=h.1 l;refine zF fun k' V=>?_
   obtain⟨a3,h⟩:=h;obtain⟨e0,a4,h⟩:=aE h;have f33:=fun H=>aO (H:=H) (fr:=false) (f:=aA) (k:=.i64) aV (fun _=>rfl) a3 a4
   simp[E,c,d,a,e,j,g3_1,g4_2,g5_3,g8_18,g9_26,f33,l,-av];apply V;refine zS fun k' V=>?_
   obtain⟨a5,a9,bd⟩:=h;have R:∀ (sJ:Bool) (O:Env) (H:ax) (n:Nat),a5 sJ->(match sJ with | L=>(O 3=pA U 3/\O 4=pA (U+1) 4/\O 5=pA (U+2) 5/\O 7=int v10/\O 16 = .list false (ar.nodes.map (ay.cells false))/\O 17=int dd/\O 18=int v10/\O 58=bool L)/\H (U,3)=some ⟨6,[bC false ar]⟩/\H (U+1,4)=some ⟨6,[bC false I]⟩/\H (U+2,5)=some ⟨2,[mC false m]⟩/\U<n/\U+1<n/\U+2<n)->J prog 150 82 k' O H n Q:=by
    rintro L O H n39 h ⟨E,c,d,a,g3_1,g4_2,g5_3⟩;replace h:=bd _ h;apply V;refine J.ite (b:=L) (by simp[E,c,d,a,g3_1,g4_2,g5_3]) (fun g=>?_) (fun g=>?_)
    ·replace h:=h.1 g;refine zE fun k' V=>?_
     simp[E,c,d,a,g3_1,g4_2,g5_3,g];apply V;exact J.bj (v:=bool false) func150 results150 (by simp[E,c,d,a,g3_1,g4_2,g5_3,g]) (hQ _ _ _ _ (.of (.v _)) ⟨false,h,rfl⟩)
    replace h:=h.2 g;apply J.skip;refine zS fun k' V=>?_
    obtain⟨be,h⟩:=h;obtain⟨e1,bi,h⟩:=aE h;simp[E,c,d,a,g3_1,g4_2,g5_3,g];refine zA ((fD ar v10 be).pure) G2 (.cons (bB false ar) (.cons (.v _ _ _) .nil)) (by simp[E,c,d,a,g3_1,g4_2,g5_3,g]) ?_;rintro _ rfl;rw[<- bi];simp[E,c,d,a,g3_1,g4_2,g5_3,g];apply V;refine zE fun k' V=>?_
    obtain⟨e2,bk,h⟩:=aE h;have f43:=fun H=>aN (H:=H) (fr:=true) (f:=aA) aV bk
    obtain⟨bs,bv,h⟩:=aE h;have f45:=jN (k:=.i64) bv;simp[E,c,d,a,g3_1,g4_2,g5_3,f43,f45,g,-aw,-aZ];apply V;refine J.ite (b:=bs) (by simp[E,c,d,a,g3_1,g4_2,g5_3,g]) (fun o=>?_) (fun o=>?_)
    ·replace h:=h.1 o;refine J.exit rfl ?_;refine zF fun k' V=>?_
     obtain⟨b0,h⟩:=h;obtain⟨b1,b2,h⟩:=aE h;have f48:=aR b0 b2;simp[E,c,d,a,g3_1,g4_2,g5_3,f48,g,o,-aw];apply V;refine D (b1) _ _ _ h (by refine⟨?_,?_,?_,?_,?_,?_,?_⟩<;>first | (simp[E,c,d,a,g3_1,g4_2,g5_3,g,o];done) | omega | (simp;omega))
    replace h:=h.2 o;apply J.skip;refine J.fC aB aP bZ (by decide) (by kernel_rfl) fun k' V=>?_
    obtain⟨b3,h⟩:=h;obtain⟨b5,b7,h⟩:=aE h;have f51:=fun H=>aO (H:=H) (fr:=false) (f:=aA) (k:=.i64) aV (fun _=>rfl) b3 b7
    obtain⟨b8,h⟩:=h;obtain⟨T,b9,h⟩:=aE h;simp[E,c,d,a,g3_1,g4_2,g5_3,f51,g,o,-av];refine bN.dA aB aP ((fD I b5 b8).pure) G2 (.cons (bB false I) (.cons (.v _ _ _) .nil)) (by decide) rfl (by simp[E,c,d,a,g3_1,g4_2,g5_3,f51,g,o,-av]) ?_;rw[<- b9];simp[E,c,d,a,g3_1,g4_2,g5_3,f51,g,o,-av];apply V;refine J.cut (fun O H n=>(O 3=pA U 3/\O 4=pA (U+1) 4/\O 5=pA (U+2) 5/\O 13 = .list true (T.1.map aA)/\O 16 = .list false (ar.nodes.map (ay.cells false))/\O 17=int dd/\O 18=int v10)/\H (U,3)=some ⟨6,[bC false ar]⟩/\H (U+1,4)=some ⟨6,[bC false I]⟩/\H (U+2,5)=some ⟨2,[mC false m]⟩/\U<n/\U+1<n/\U+2<n) (by refine⟨?_,?_,?_,?_,?_,?_,?_⟩<;>first | (simp[E,c,d,a,g3_1,g4_2,g5_3,f51,g,o,-av];done) | omega | (simp;omega)) ?_;clear E c d a g3_1 g4_2 g5_3;rintro O H e3 ⟨E,c,d,a,g3_1,g4_2,g5_3⟩;refine zE fun k' V=>?_
    obtain⟨W,h⟩:=h;obtain⟨cc,ce,h⟩:=aE h;simp[E,c,d,a,g3_1,g4_2,g5_3];refine bX.nG aB (ec true T.1 (fun z=>dS z m) W.1 (fun z hz=>pf z m a (W.2 z hz))) GN (by decide) (by decide) rfl (by simp[E,c,d,a,g3_1,g4_2,g5_3]) ?_;rintro _ rfl;rw[<- ce];simp[E,c,d,a,g3_1,g4_2,g5_3];apply V;refine J.ite (b:=cc) (by simp[E,c,d,a,g3_1,g4_2,g5_3]) (fun t=>?_) (fun t=>?_)
    ·replace h:=h.1 t;refine zE fun k' V=>?_
     simp[E,c,d,a,g3_1,g4_2,g5_3,t];apply V;exact J.bj (v:=bool false) func150 results150 (by simp[E,c,d,a,g3_1,g4_2,g5_3,t]) (hQ _ _ _ _ (.of (.v _)) ⟨false,h,rfl⟩)
    replace h:=h.2 t;apply J.skip;refine zI fun k' V=>?_
    obtain⟨ci,h⟩:=h;obtain⟨v58,cj,h⟩:=aE h;have f59:=aR ci cj;simp[E,c,d,a,g3_1,g4_2,g5_3,f59,t,-aw];apply V;refine D (v58) _ _ _ h (by refine⟨?_,?_,?_,?_,?_,?_,?_⟩<;>first | (simp[E,c,d,a,g3_1,g4_2,g5_3,t];done) | omega | (simp;omega))
   replace h:=a9;obtain⟨ck,cl,h⟩:=aE h;have f61:=eo (k:=.i64) cl;rcases Bool.eq_false_or_eq_true ck with u | u
   ·replace h:=h.1 u;simp[E,c,d,a,e,j,g3_1,g4_2,g5_3,g8_18,g9_26,f61,l,u,-aw];exact R (true) _ _ _ h (by refine⟨?_,?_,?_,?_,?_,?_,?_⟩<;>first | (simp[E,c,d,a,e,j,g3_1,g4_2,g5_3,g8_18,g9_26,f61,l,u,-aw];done) | omega | (simp;omega))
   replace h:=h.2 u;obtain⟨co,cs,h⟩:=aE h;have f63:=eo (k:=.i64) cs;simp[E,c,d,a,e,j,g3_1,g4_2,g5_3,g8_18,g9_26,f61,f63,l,u,-aw];exact R (co) _ _ _ h (by refine⟨?_,?_,?_,?_,?_,?_,?_⟩<;>first | (simp[E,c,d,a,e,j,g3_1,g4_2,g5_3,g8_18,g9_26,f61,f63,l,u,-aw];done) | omega | (simp;omega))
  replace h:=h.2 l;refine zF fun k' V=>?_
  obtain⟨c0,h⟩:=h;obtain⟨e4,c1,h⟩:=aE h;have f66:=nb c0 c1;obtain⟨c2,h⟩:=h;obtain⟨e5,c3,h⟩:=aE h;have f69:=fun H=>aO (H:=H) (fr:=false) (f:=aA) (k:=.i64) aV (fun _=>rfl) c2 c3
  simp[E,c,d,a,e,j,g3_1,g4_2,g5_3,g8_18,g9_26,f66,f69,l,-av,-aw];apply V;refine zS fun k' V=>?_
  obtain⟨c4,c6,c8⟩:=h;have X:∀ (sJ:Bool) (O:Env) (H:ax) (n:Nat),c4 sJ->(match sJ with | N=>(O 3=pA U 3/\O 4=pA (U+1) 4/\O 5=pA (U+2) 5/\O 7=int v10/\O 16 = .list false (ar.nodes.map (ay.cells false))/\O 17=int dd/\O 18=int v10/\O 58=bool N)/\H (U,3)=some ⟨6,[bC false ar]⟩/\H (U+1,4)=some ⟨6,[bC false I]⟩/\H (U+2,5)=some ⟨2,[mC false m]⟩/\U<n/\U+1<n/\U+2<n)->J prog 150 82 k' O H n Q:=by
   rintro N O H e6 h ⟨E,c,d,a,g3_1,g4_2,g5_3⟩;replace h:=c8 _ h;apply V;refine J.ite (b:=N) (by simp[E,c,d,a,g3_1,g4_2,g5_3]) (fun i=>?_) (fun i=>?_)
   ·replace h:=h.1 i;refine zE fun k' V=>?_
    simp[E,c,d,a,g3_1,g4_2,g5_3,i];apply V;exact J.bj (v:=bool false) func150 results150 (by simp[E,c,d,a,g3_1,g4_2,g5_3,i]) (hQ _ _ _ _ (.of (.v _)) ⟨false,h,rfl⟩)
   replace h:=h.2 i;apply J.skip;refine zS fun k' V=>?_
   obtain⟨c9,h⟩:=h;obtain⟨e8,da,h⟩:=aE h;simp[E,c,d,a,g3_1,g4_2,g5_3,i];refine zA ((fD ar v10 c9).pure) G2 (.cons (bB false ar) (.cons (.v _ _ _) .nil)) (by simp[E,c,d,a,g3_1,g4_2,g5_3,i]) ?_;rintro _ rfl;rw[<- da];simp[E,c,d,a,g3_1,g4_2,g5_3,i];apply V;refine zE fun k' V=>?_
   obtain⟨e9,dc,h⟩:=aE h;have f79:=fun H=>aN (H:=H) (fr:=true) (f:=aA) aV dc
   obtain⟨dl,dr,h⟩:=aE h;have f81:=jN (k:=.i64) dr;simp[E,c,d,a,g3_1,g4_2,g5_3,f79,f81,i,-aw,-aZ];apply V;refine J.ite (b:=dl) (by simp[E,c,d,a,g3_1,g4_2,g5_3,i]) (fun p=>?_) (fun p=>?_)
   ·replace h:=h.1 p;refine J.exit rfl ?_;refine zF fun k' V=>?_
    obtain⟨ds,h⟩:=h;obtain⟨d0,d1,h⟩:=aE h;have f84:=aR ds d1;simp[E,c,d,a,g3_1,g4_2,g5_3,f84,i,p,-aw];apply V;refine D (d0) _ _ _ h (by refine⟨?_,?_,?_,?_,?_,?_,?_⟩<;>first | (simp[E,c,d,a,g3_1,g4_2,g5_3,i,p];done) | omega | (simp;omega))
   replace h:=h.2 p;apply J.skip;refine J.fC aB aP bZ (by decide) (by kernel_rfl) fun k' V=>?_
   obtain⟨d2,h⟩:=h;obtain⟨d3,d4,h⟩:=aE h;have f87:=fun H=>aO (H:=H) (fr:=false) (f:=aA) (k:=.i64) aV (fun _=>rfl) d2 d4
   obtain⟨d5,h⟩:=h;obtain⟨Y,d6,h⟩:=aE h;simp[E,c,d,a,g3_1,g4_2,g5_3,f87,i,p,-av];refine bN.dA aB aP ((fD I d3 d5).pure) G2 (.cons (bB false I) (.cons (.v _ _ _) .nil)) (by decide) rfl (by simp[E,c,d,a,g3_1,g4_2,g5_3,f87,i,p,-av]) ?_;rw[<- d6];simp[E,c,d,a,g3_1,g4_2,g5_3,f87,i,p,-av];apply V;refine J.cut (fun O H n=>(O 3=pA U 3/\O 4=pA (U+1) 4/\O 5=pA (U+2) 5/\O 13 = .list true (Y.1.map aA)/\O 16 = .list false (ar.nodes.map (ay.cells false))/\O 17=int dd/\O 18=int v10)/\H (U,3)=some ⟨6,[bC false ar]⟩/\H (U+1,4)=some ⟨6,[bC false I]⟩/\H (U+2,5)=some ⟨2,[mC false m]⟩/\U<n/\U+1<n/\U+2<n) (by refine⟨?_,?_,?_,?_,?_,?_,?_⟩<;>first | (simp[E,c,d,a,g3_1,g4_2,g5_3,f87,i,p,-av];done) | omega | (simp;omega)) ?_;clear E c d a g3_1 g4_2 g5_3;rintro O H fd ⟨E,c,d,a,g3_1,g4_2,g5_3⟩;refine zE fun k' V=>?_
   obtain⟨ab,h⟩:=h;obtain⟨d7,d8,h⟩:=aE h;simp[E,c,d,a,g3_1,g4_2,g5_3];refine bX.nG aB (ec true Y.1 (fun z=>dS z m) ab.1 (fun z hz=>pf z m a (ab.2 z hz))) GN (by decide) (by decide) rfl (by simp[E,c,d,a,g3_1,g4_2,g5_3]) ?_;rintro _ rfl;rw[<- d8];simp[E,c,d,a,g3_1,g4_2,g5_3];apply V;refine J.ite (b:=d7) (by simp[E,c,d,a,g3_1,g4_2,g5_3]) (fun A=>?_) (fun A=>?_)
   ·replace h:=h.1 A;refine zE fun k' V=>?_
    simp[E,c,d,a,g3_1,g4_2,g5_3,A];apply V;exact J.bj (v:=bool false) func150 results150 (by simp[E,c,d,a,g3_1,g4_2,g5_3,A]) (hQ _ _ _ _ (.of (.v _)) ⟨false,h,rfl⟩)
   replace h:=h.2 A;apply J.skip;refine zI fun k' V=>?_
   obtain⟨d9,h⟩:=h;obtain⟨eg,el,h⟩:=aE h;have f95:=aR d9 el;simp[E,c,d,a,g3_1,g4_2,g5_3,f95,A,-aw];apply V;refine D (eg) _ _ _ h (by refine⟨?_,?_,?_,?_,?_,?_,?_⟩<;>first | (simp[E,c,d,a,g3_1,g4_2,g5_3,A];done) | omega | (simp;omega))
  replace h:=c6;obtain⟨em,es,h⟩:=aE h;have f97:=eo (k:=.i64) es;rcases Bool.eq_false_or_eq_true em with B | B
  ·replace h:=h.1 B;simp[E,c,d,a,e,j,g3_1,g4_2,g5_3,g8_18,g9_26,f97,l,B,-aw];exact X (true) _ _ _ h (by refine⟨?_,?_,?_,?_,?_,?_,?_⟩<;>first | (simp[E,c,d,a,e,j,g3_1,g4_2,g5_3,g8_18,g9_26,f97,l,B,-aw];done) | omega | (simp;omega))
  replace h:=h.2 B;obtain⟨ev,ex,h⟩:=aE h;have f99:=eo (k:=.i64) ex;simp[E,c,d,a,e,j,g3_1,g4_2,g5_3,g8_18,g9_26,f97,f99,l,B,-aw];exact X (ev) _ _ _ h (by refine⟨?_,?_,?_,?_,?_,?_,?_⟩<;>first | (simp[E,c,d,a,e,j,g3_1,g4_2,g5_3,g8_18,g9_26,f97,f99,l,B,-aw];done) | omega | (simp;omega))
 replace h:=h.2 q;refine J.exit rfl ?_;refine zE fun k' V=>?_
 simp[E,c,d,a,g3_1,g4_2,g5_3,q];apply V;exact J.bj (v:=bool true) func150 results150 (by simp[E,c,d,a,g3_1,g4_2,g5_3,q]) (hQ _ _ _ _ (.of (.v _)) ⟨true,h,rfl⟩)
theorem yI (ar:aG) (I:aG) (m:Match) (hp:kU ar I m):aF prog 150 [.agg (bC false ar),.agg (bC false I),.agg (mC false m)] (fun r=>r=bool (fe ar I m)):=(vd ar I m _ (xd ar I m hp)).mono (by rintro _ ⟨_,rfl,rfl⟩;rfl)
theorem e93:a8 prog 93:=a8.of func93 (by kernel_rfl) rfl
theorem sO (ar:aG) (I:aG) (nodes:List Int) (Z:((List Int) × Bool)->Prop) (h:ij ar I nodes Z):bn prog 93 [.agg (bC false ar),.agg (bC false I),.list false (nodes.map aA)] (.t [.s [.c],.c]) (fun r=>∃ y:(List Int) × Bool,Z y/\r = .tup [.list true (y.1.map aA),bool y.2]):=by
 unfold ij at h;have M:Sep bx 0 [] []:=Sep.nil (by simp);refine bn.of func93 rfl ntmps93 (by simp) fun Q hQ=>?_
 refine J.cut (fun O H n=>(O 0 = .agg (bC false ar)/\O 1 = .agg (bC false I)/\O 2 = .list false (nodes.map aA))/\Sep H n [] []) (by refine⟨by simp ,M⟩) ?_;rintro O H U ⟨E,M⟩;refine zE fun k' V=>?_
 simp[E];apply V;refine J.cut (fun O H n=>((O 2 = .list false (nodes.map aA)/\O 3=pA U 3/\O 4=pA (U+1) 4)/\H (U,3)=some ⟨6,[bC false ar]⟩/\H (U+1,4)=some ⟨6,[bC false I]⟩)/\Sep H n [] [(U+1,4),(U,3)]) (by refine⟨by simp[E],M.var.var⟩) ?_;clear E;rintro O H n4 ⟨⟨E,a,d⟩,M⟩;refine zE fun k' V=>?_
 obtain⟨yv,elen5,h⟩:=aE h;have f6:=fun H=>aN (H:=H) (fr:=false) (f:=aT) bY elen5
 obtain⟨hb7,h⟩:=h;obtain⟨v8,ev8,h⟩:=aE h;have f9:=aR hb7 ev8;obtain⟨b2,h⟩:=h;obtain⟨b3,b5,h⟩:=aE h;simp[E,a,d,f6,f9,-aw,-aZ];refine zW (CK [(-1)] v8 b2) e154 (.cons (aQ.uM (fr:=true) (els:=[(-1)].map aA) (by simp)) (.cons (.v _ _ _) .nil)) M (by simp[E,a,d,f6,f9,-aw,-aZ]) ?_;rintro v12 f8 n14 _ M rfl gc be;rw[<- b5] at M;have a:=(be _ (by simp)).trans a;have d:=(be _ (by simp)).trans d;simp[E,a,d,f6,f9,-aw,-aZ];apply V;refine J.cut (fun O H n=>∃ (W:au),((O 2 = .list false (nodes.map aA)/\O 3=pA U 3/\O 4=pA (U+1) 4/\O 8=W)/\H (U,3)=some ⟨6,[bC false ar]⟩/\H (U+1,4)=some ⟨6,[bC false I]⟩)/\Sep H n [oI W b3] [(U+1,4),(U,3)]) (by refine⟨v12,by simp[E,a,d,f6,f9,-aw,-aZ],M⟩) ?_;clear E a d;rintro O H n20 ⟨W,⟨E,a,d⟩,M⟩;refine zS fun k' V=>?_
 obtain⟨G,b7,h⟩:=aE h;have f22:=fun H=>aN (H:=H) (fr:=false) (f:=(ay.cells false)) bH b7
 simp[E,a,d,f22,-aZ];apply V;apply J.block;refine J.aI h (fun (sJ:Int × (List Int)) O H n=>match sJ with | (v30,i)=>∃ (v32:au),((O 2 = .list false (nodes.map aA)/\O 3=pA U 3/\O 4=pA (U+1) 4/\O 8=v32/\O 28 = .list false (ar.nodes.map (ay.cells false))/\O 29=int G/\O 30=int v30)/\H (U,3)=some ⟨6,[bC false ar]⟩/\H (U+1,4)=some ⟨6,[bC false I]⟩)/\Sep H n [oI v32 i] [(U+1,4),(U,3)]) (by refine⟨W,by simp[E,a,d],M⟩) ?_;clear E a d;rintro⟨v30,i⟩ O H n33 K h ⟨v32,⟨E,a,d⟩,M⟩ b8;refine zE fun k' V=>?_
 obtain⟨b9,cc,h⟩:=aE h;have f37:=aX (k:=.i64) cc;simp[E,a,d,f37,-aw];apply V;apply J.seq;refine J.ite (b:=b9) (by simp[E,a,d]) (fun A=>?_) (fun A=>?_)
 ·replace h:=h.1 A;apply zK;apply J.block;refine zE fun k' V=>?_
  obtain⟨ce,h⟩:=h;obtain⟨B,ci,h⟩:=aE h;have f40:=fun H=>aO (H:=H) (fr:=false) (f:=(ay.cells false)) (k:=.i64) bH (fun _=>rfl) ce ci
  simp[E,a,d,f40,A,-av];apply V;refine J.cut (fun O H n=>∃ (X:au),((O 2 = .list false (nodes.map aA)/\O 3=pA U 3/\O 4=pA (U+1) 4/\O 8=X/\O 9=int v30/\O 10=pA n33 10/\O 28 = .list false (ar.nodes.map (ay.cells false))/\O 29=int G/\O 30=int v30)/\H (U,3)=some ⟨6,[bC false ar]⟩/\H (U+1,4)=some ⟨6,[bC false I]⟩/\H (n33,10)=some ⟨3,[[int B.control,int B.parent,.list false (B.links.map aA)]]⟩)/\Sep H n [oI X i] [(n33,10),(U+1,4),(U,3)]) (by refine⟨v32,by simp[E,a,d,f40,A,-av],M.var⟩) ?_;clear E a d;rintro O H n43 ⟨X,⟨E,a,d,am⟩,M⟩;refine zE fun k' V=>?_
  obtain⟨Y,cj,h⟩:=aE h;have f45:=fun H=>aN (H:=H) (fr:=false) (f:=aA) aV cj
  simp[E,a,d,am,f45,-aZ];apply V;apply J.block;refine J.aI h (fun (sJ:Int × (List Int)) O H n=>match sJ with | (v53,e)=>∃ (v55:au),((O 2 = .list false (nodes.map aA)/\O 3=pA U 3/\O 4=pA (U+1) 4/\O 8=v55/\O 9=int v30/\O 28 = .list false (ar.nodes.map (ay.cells false))/\O 29=int G/\O 30=int v30/\O 36 = .list false (B.links.map aA)/\O 37=int Y/\O 38=int v53)/\H (U,3)=some ⟨6,[bC false ar]⟩/\H (U+1,4)=some ⟨6,[bC false I]⟩)/\Sep H n [oI v55 e] [(U+1,4),(U,3)]) (by refine⟨X,by simp[E,a,d,am],(Sep.sub M (by simp +contextual))⟩) ?_;clear E a d am;rintro⟨v53,e⟩ O H gd K h ⟨v55,⟨E,a,d⟩,M⟩ ck;refine zE fun k' V=>?_
  obtain⟨cl,co,h⟩:=aE h;have f60:=aX (k:=.i64) co;simp[E,a,d,f60,-aw];apply V;apply J.seq;refine J.ite (b:=cl) (by simp[E,a,d]) (fun o=>?_) (fun o=>?_)
  ·replace h:=h.1 o;apply zK;apply J.block;refine zE fun k' V=>?_
   obtain⟨cs,h⟩:=h;obtain⟨L,c0,h⟩:=aE h;have f63:=fun H=>aO (H:=H) (fr:=false) (f:=aA) (k:=.i64) aV (fun _=>rfl) cs c0
   simp[E,a,d,f63,o,-av];apply V;refine J.fC aB aP bZ (by decide) (by kernel_rfl) fun k' V=>?_
   obtain⟨c1,h⟩:=h;obtain⟨gg,c2,h⟩:=aE h;have f66:=fun H=>aO (H:=H) (fr:=false) (f:=aA) (k:=.i64) aV (fun _=>rfl) c1 c2
   obtain⟨c3,h⟩:=h;obtain⟨gi,c4,h⟩:=aE h;have f69:=fun H=>aO (H:=H) (fr:=false) (f:=(ay.cells false)) (k:=.i64) bH (fun _=>rfl) c3 c4
   obtain⟨c6,h⟩:=h;obtain⟨ao,c8,h⟩:=aE h;have f72:=fun H=>aO (H:=H) (fr:=false) (f:=aA) (k:=.i64) aV (fun _=>rfl) c6 c8
   simp[E,a,d,f66,f69,f72,o,-av];apply V;refine J.cut (fun O H n=>∃ (ap:au),((O 2 = .list false (nodes.map aA)/\O 3=pA U 3/\O 4=pA (U+1) 4/\O 8=ap/\O 9=int v30/\O 12=int L/\O 13=int ao/\O 28 = .list false (ar.nodes.map (ay.cells false))/\O 29=int G/\O 30=int v30/\O 36 = .list false (B.links.map aA)/\O 37=int Y/\O 38=int v53)/\H (U,3)=some ⟨6,[bC false ar]⟩/\H (U+1,4)=some ⟨6,[bC false I]⟩)/\Sep H n [oI ap e] [(U+1,4),(U,3)]) (by refine⟨v55,by simp[E,a,d,f66,f69,f72,o,-av],M⟩) ?_;clear E a d;rintro O H gj ⟨ap,⟨E,a,d⟩,M⟩;refine zS fun k' V=>?_
   obtain⟨c9,da,dc⟩:=h;have bi:∀ (sJ:Bool) (O:Env) (H:ax) (n:Nat),c9 sJ->(match sJ with | aM=>∃ (v79:au),((O 2 = .list false (nodes.map aA)/\O 3=pA U 3/\O 4=pA (U+1) 4/\O 8=v79/\O 9=int v30/\O 12=int L/\O 13=int ao/\O 28 = .list false (ar.nodes.map (ay.cells false))/\O 29=int G/\O 30=int v30/\O 36 = .list false (B.links.map aA)/\O 37=int Y/\O 38=int v53/\O 67=bool aM)/\H (U,3)=some ⟨6,[bC false ar]⟩/\H (U+1,4)=some ⟨6,[bC false I]⟩)/\Sep H n [oI v79 e] [(U+1,4),(U,3)])->J prog 93 110 k' O H n Q:=by
    rintro aM O H dl h ⟨v79,⟨E,a,d⟩,M⟩;replace h:=dc _ h;apply V;refine J.ite (b:=aM) (by simp[E,a,d]) (fun l=>?_) (fun l=>?_)
    ·replace h:=h.1 l;refine zE fun k' V=>?_
     simp[E,a,d,l];apply V;exact J.vV (v:=.v (.slice none 0 0)) (w:=bool false) func93 results93 (by simp[E,a,d,l]) (by simp[E,a,d,l]) (hQ _ _ _ _ (Sep.sub (dn:=[]) (Sep.hd (Sep.gH (aK.own (aK.v _ aK.nil)) (Sep.cY M))) (by simp)) ⟨([],false),h,rfl⟩)
    replace h:=h.2 l;apply J.skip;refine zF fun k' V=>?_
    obtain⟨a0,h⟩:=h;obtain⟨a1,hv,ds,go,N⟩:=Sep.eh M (by simp) a0;subst hv;simp at N;obtain⟨gs,d0,h⟩:=aE h;have f90:=fun H (hm:H a1=some ⟨1,e.map aA⟩)=>ct (H:=H) (k:=.i64) (off:=0) (len:=e.length) (g:=e.length) aV hm (by simp) rfl a0
    have f91:=b6 (q:=L.toNat) a0 d0 rfl;obtain⟨a2,d1,h⟩:=aE h;simp[E,a,d,ds,N,f90,f91,l,-av,-ca];refine et (q:=L.toNat) (news:=aA ao) [] [] M (by simp) (by simp;omega) (by simp) (by simp[-aH,bc]) (aK.v _ aK.nil) ?_;rintro d2 M bk;replace M:Sep d2 dl [oI (.arr a1 e.length 0 e.length) a2] [(U+1,4),(U,3)]:=Sep.st d1 M;have a:=(bk _ (by simp)).trans a;have d:=(bk _ (by simp)).trans d;simp[E,a,d,N,f90,f91,l,-av];apply V;refine J.cut (fun O H n=>∃ (ab:au),((O 2 = .list false (nodes.map aA)/\O 3=pA U 3/\O 4=pA (U+1) 4/\O 8=ab/\O 9=int v30/\O 28 = .list false (ar.nodes.map (ay.cells false))/\O 29=int G/\O 30=int v30/\O 36 = .list false (B.links.map aA)/\O 37=int Y/\O 38=int v53)/\H (U,3)=some ⟨6,[bC false ar]⟩/\H (U+1,4)=some ⟨6,[bC false I]⟩)/\Sep H n [oI ab a2] [(U+1,4),(U,3)]) (by refine⟨.arr a1 e.length 0 e.length,by simp[E,a,d,N,f90,f91,l,-av],M⟩) ?_;clear E a d N;rintro O H gu ⟨ab,⟨E,a,d⟩,M⟩;refine zI fun k' V=>?_
    obtain⟨d3,h⟩:=h;obtain⟨d4,d5,h⟩:=aE h;have f100:=aR d3 d5;simp[E,a,d,f100,-aw];apply V;refine ck (d4,a2) _ _ _ h (by refine⟨ab,by simp[E,a,d],M⟩)
   replace h:=da;obtain⟨a3,h⟩:=h;obtain⟨ac,hv,ad,gv,R⟩:=Sep.eh M (by simp) a3;subst hv;simp at R;obtain⟨gw,a4,h⟩:=aE h;have f107:=fun H (hm:H ac=some ⟨1,e.map aA⟩)=>ct (H:=H) (k:=.i64) (off:=0) (len:=e.length) (g:=e.length) aV hm (by simp) rfl a3
   have f108:=b6 (q:=L.toNat) a3 a4 rfl;obtain⟨d6,d7,h⟩:=aE h;have f110:=kK (k:=.i64) d7;rcases Bool.eq_false_or_eq_true d6 with C | C
   ·replace h:=h.1 C;obtain⟨bs,h⟩:=h;obtain⟨g0,d8,h⟩:=aE h;have d9:=a4.trans d8.symm;subst d9;have f114:=fun H (hm:H ac=some ⟨1,e.map aA⟩)=>ct (H:=H) (k:=.i64) (off:=0) (len:=e.length) (g:=e.length) aV hm (by simp) rfl bs
    have f115:=b6 (q:=L.toNat) bs a4 rfl;obtain⟨eg,el,h⟩:=aE h;have f117:=eo (k:=.i64) el;simp[E,a,d,ad,R,f107,f108,f110,f114,f115,f117,C,-av,-aw];exact bi (eg) _ _ _ h (by refine⟨.arr ac e.length 0 e.length,by simp[E,a,d,ad,R,f107,f108,f110,f114,f115,f117,C,-av,-aw],M⟩)
   replace h:=h.2 C;simp[E,a,d,ad,R,f107,f108,f110,C,-av,-aw];exact bi (false) _ _ _ h (by refine⟨.arr ac e.length 0 e.length,by simp[E,a,d,ad,R,f107,f108,f110,C,-av,-aw],M⟩)
  replace h:=h.2 o;refine J.exit rfl ?_;refine zI fun k' V=>?_
  obtain⟨em,h⟩:=h;obtain⟨es,ev,h⟩:=aE h;have f120:=aR em ev;simp[E,a,d,f120,o,-aw];apply V;refine b8 (es,e) _ _ _ h (by refine⟨v55,by simp[E,a,d,o],M⟩)
 replace h:=h.2 A;refine J.exit rfl ?_;refine zS fun k' V=>?_
 simp[E,a,d,A];apply V;apply J.block;refine J.aI h (fun (sJ:Int) O H n=>match sJ with | v124=>∃ (T:au),((O 3=pA U 3/\O 4=pA (U+1) 4/\O 8=T/\O 75=int ar.edges/\O 76=int v124)/\H (U,3)=some ⟨6,[bC false ar]⟩/\H (U+1,4)=some ⟨6,[bC false I]⟩)/\Sep H n [oI T i] [(U+1,4),(U,3)]) (by refine⟨v32,by simp[E,a,d,A],M⟩) ?_;clear E a d;rintro v124 O H n126 K h ⟨T,⟨E,a,d⟩,M⟩ ex;refine zE fun k' V=>?_
 obtain⟨ey,e0,h⟩:=aE h;have f130:=aX (k:=.i64) e0;simp[E,a,d,f130,-aw];apply V;apply J.seq;refine J.ite (b:=ey) (by simp[E,a,d]) (fun j=>?_) (fun j=>?_)
 ·replace h:=h.1 j;apply zK;apply J.block;refine zE fun k' V=>?_
  simp[E,a,d,j];apply V;refine zE fun k' V=>?_
  obtain⟨e1,h⟩:=h;obtain⟨e2,e3,h⟩:=aE h;simp[E,a,d,j];refine zW (nP ar v124 e1) e155 (.cons (bB false ar) (.cons (.v _ _ _) .nil)) M (by simp[E,a,d,j]) ?_;rintro g1 g2 n135 _ M rfl g3 bv;rw[<- e3] at M;have a:=(bv _ (by simp)).trans a;have d:=(bv _ (by simp)).trans d;replace M:=Sep.ji M;obtain⟨L141,hv,e4,M⟩:=M;subst hv;obtain⟨v139,g4,hv⟩:=cJ (by simpa using e4);subst hv;simp only[dW,List.cons_append,List.nil_append] at M;replace M:=Sep.fJ M;replace M:=Sep.fJ M;simp[E,a,d,j];apply V;refine J.cut (fun O H n=>∃ (v145 v146:au),((O 3=pA U 3/\O 4=pA (U+1) 4/\O 8=v145/\O 14=int v124/\O 15=v146/\O 75=int ar.edges/\O 76=int v124)/\H (U,3)=some ⟨6,[bC false ar]⟩/\H (U+1,4)=some ⟨6,[bC false I]⟩)/\Sep H n [oI v145 i,oE [.c,.c] cp v146 e2.1] [(U+1,4),(U,3)]) (by refine⟨T,v139,by simp[E,a,d,j],M.f2.dr⟩) ?_;clear E a d;rintro O H n147 ⟨v145,v146,⟨E,a,d⟩,M⟩;refine J.fC aB aP bZ (by decide) (by kernel_rfl) fun k' V=>?_
  obtain⟨a5,h⟩:=h;obtain⟨af,hv,D,g5,p⟩:=Sep.eh M (by simp) a5;subst hv;simp at p;obtain⟨e5,a9,h⟩:=aE h;have f154:=fun H (hm:H af=some ⟨1,i.map aA⟩)=>ct (H:=H) (k:=.i64) (off:=0) (len:=i.length) (g:=i.length) aV hm (by simp) rfl a5
  have f155:=b6 (q:=v124.toNat) a5 a9 rfl;obtain⟨e6,h⟩:=h;obtain⟨g6,e8,h⟩:=aE h;simp[E,a,d,D,p,f154,f155,-av];refine bN.dA aB aP ((nP I e5 e6).pure) e155 (.cons (bB false I) (.cons (.v _ _ _) .nil)) (by decide) rfl (by simp[E,a,d,D,p,f154,f155,-av]) ?_;rw[<- e8];simp[E,a,d,D,p,f154,f155,-av];apply V;refine J.fC aB aP bZ (by decide) (by kernel_rfl) fun k' V=>?_
  obtain⟨e9,fd,fl⟩:=h;have b0:∀ (sJ:Bool) (O:Env) (H:ax) (n:Nat),e9 sJ->(match sJ with | bd=>∃ (v162:au),((O 3=pA U 3/\O 4=pA (U+1) 4/\O 8=v162/\O 75=int ar.edges/\O 76=int v124/\O 107=bool bd)/\H (U,3)=some ⟨6,[bC false ar]⟩/\H (U+1,4)=some ⟨6,[bC false I]⟩)/\Sep H n [oI v162 i] [(U+1,4),(U,3)])->J prog 93 110 k' O H n Q:=by
   rintro bd O H n164 h ⟨v162,⟨E,a,d⟩,M⟩;replace h:=fl _ h;apply V;refine J.ite (b:=bd) (by simp[E,a,d]) (fun u=>?_) (fun u=>?_)
   ·replace h:=h.1 u;refine zE fun k' V=>?_
    simp[E,a,d,u];apply V;exact J.vV (v:=.v (.slice none 0 0)) (w:=bool false) func93 results93 (by simp[E,a,d,u]) (by simp[E,a,d,u]) (hQ _ _ _ _ (Sep.sub (dn:=[]) (Sep.hd (Sep.gH (aK.own (aK.v _ aK.nil)) (Sep.cY M))) (by simp)) ⟨([],false),h,rfl⟩)
   replace h:=h.2 u;apply J.skip;refine zI fun k' V=>?_
   obtain⟨fn,h⟩:=h;obtain⟨v168,fo,h⟩:=aE h;have f169:=aR fn fo;simp[E,a,d,f169,u,-aw];apply V;refine ex (v168) _ _ _ h (by refine⟨v162,by simp[E,a,d,u],M⟩)
  replace h:=fd;obtain⟨b1,h⟩:=h;obtain⟨g7,fs,h⟩:=aE h;have fv:=a9.trans fs.symm;subst fv;have f173:=fun H (hm:H af=some ⟨1,i.map aA⟩)=>ct (H:=H) (k:=.i64) (off:=0) (len:=i.length) (g:=i.length) aV hm (by simp) rfl b1
  have f174:=b6 (q:=v124.toNat) b1 a9 rfl;obtain⟨fx,fz,h⟩:=aE h;have f176:=kK (k:=.i64) fz;rcases Bool.eq_false_or_eq_true fx with F | F
  ·replace h:=h.1 F;simp[E,a,d,D,p,f173,f174,f176,F,-av,-aw];exact b0 (true) _ _ _ h (by refine⟨.arr af i.length 0 i.length,by simp[E,a,d,D,p,f173,f174,f176,F,-av,-aw],M.f1.dr⟩)
  replace h:=h.2 F;obtain⟨g8,f0,h⟩:=aE h;have f178:=fun H=>aN (H:=H) (fr:=true) (f:=cp) fp f0
  obtain⟨f3,f4,h⟩:=aE h;have f180:=dY (Sep.len (m:=f3) M.f1 fp (by rw[f4,List.length_map]));obtain⟨f5,f7,h⟩:=aE h;have f182:=eo (k:=.i64) f7;simp[E,a,d,D,p,f173,f174,f176,f178,f180,f182,F,-av,-aw,-aZ];exact b0 (f5) _ _ _ h (by refine⟨.arr af i.length 0 i.length,by simp[E,a,d,D,p,f173,f174,f176,f178,f180,f182,F,-av,-aw,-aZ],M.f1.dr⟩)
 replace h:=h.2 j;refine J.exit rfl ?_;refine zE fun k' V=>?_
 simp[E,a,d,j];apply V;exact J.vV (v:=T) (w:=bool true) func93 results93 (by simp[E,a,d,j]) (by simp[E,a,d,j]) (hQ _ _ _ _ (Sep.sub (dn:=[]) (Sep.gH (aK.own (aK.v _ aK.nil)) M) (by simp)) ⟨(i,true),h,rfl⟩)
theorem po (ar:aG) (I:aG) (nodes:List Int) (hp:dh ar I nodes):bn prog 93 [.agg (bC false ar),.agg (bC false I),.list false (nodes.map aA)] (.t [.s [.c],.c]) (fun r=>r = .tup [.list true (((ek ar I nodes).1).map aA),bool ((ek ar I nodes).2)]):=(sO ar I nodes _ (vD ar I nodes hp)).mono (by rintro _ ⟨_,rfl,rfl⟩;rfl)
theorem e147:a8 prog 147:=a8.of func147 (by kernel_rfl) rfl
theorem vL {H0:ax} {n0:Nat} {X1:Id} {X2:Id} (p:Int) (v_:aG) (v_':Match) (hX1:H0 X1=some ⟨6,[bC false v_]⟩) (hX2:H0 X2=some ⟨2,[mC false v_']⟩) (Z:Bool->Prop) (h:kb p v_ v_' Z):gI prog H0 n0 (.fn (.func 147) [] [.ptr X1 1 0 0,.ptr X2 1 0 0]) [int p] (fun r=>∃ y:Bool,Z y/\r=bool y):=by
 unfold kb at h;refine⟨147,[],[.ptr X1 1 0 0,.ptr X2 1 0 0],rfl,e147,?_⟩;refine dw.of func147 rfl ntmps147 (by simp) fun Q hB hQ=>?_
 have lX1:X1.1<n0:=(hB X1 _ hX1).1;have lX2:X2.1<n0:=(hB X2 _ hX2).1;have neX1:∀ m d,n0<=m->(X1=(m,d))=False:=fun m d hm=>by simp only[eq_iff_iff,iff_false];rintro rfl;simp at lX1;omega
 have neX2:∀ m d,n0<=m->(X2=(m,d))=False:=fun m d hm=>by simp only[eq_iff_iff,iff_false];rintro rfl;simp at lX2;omega
 have hfr:Frame n0 H0 H0:=Frame.refl _ _;have hn0:n0<=n0:=Nat.le_refl _;refine J.cut (fun O H n=>(O 0=int p/\O 1 = .ptr X1 1 0 0/\O 2 = .ptr X2 1 0 0)/\H X1=some ⟨6,[bC false v_]⟩/\H X2=some ⟨2,[mC false v_']⟩/\n0<=n/\Frame n0 H0 H) (by refine⟨?_,?_,?_,?_,?_⟩<;>first | ((repeat (first | exact hfr | refine Frame.set (by first | omega | (simp;omega)) ?_));done) | omega | simp[hX1,hX2]) ?_;rintro O H U ⟨E,mX1,mX2,hn0,hfr⟩;have hn1:=Nat.le_succ_of_le hn0;have hn2:=Nat.le_succ_of_le hn1;refine zE fun k' V=>?_
 simp[E,mX1,mX2,hn0,hn1,hn2,neX1,neX2];apply V;refine zE fun k' V=>?_
 obtain⟨J2,hJ3,hr4⟩:=h;have fin6:∀ (sJ:Bool) (O:Env) (H:ax) (n:Nat),J2 sJ->(match sJ with | b5=>O 4=bool b5/\H X1=some ⟨6,[bC false v_]⟩/\H X2=some ⟨2,[mC false v_']⟩/\n0<=n/\Frame n0 H0 H)->J prog 147 22 k' O H n Q:=by
  rintro b5 O H n7 h ⟨E,mX1,mX2,hn0,hfr⟩;have hn1:=Nat.le_succ_of_le hn0;have hn2:=Nat.le_succ_of_le hn1;replace h:=hr4 _ h;apply V;exact J.bj (v:=bool b5) func147 results147 (by simp[E,mX1,mX2,hn0,hn1,hn2,neX1,neX2]) (hQ _ _ _ _ (.mY (.v _)) (hfr) ⟨b5,h,rfl⟩)
 replace h:=hJ3;obtain⟨hb8,h⟩:=h;obtain⟨v9,ev9,h⟩:=aE h;have f10:=B6 hb8 ev9;obtain⟨zy,b,h⟩:=aE h;have f12:=fun H=>aN (H:=H) (fr:=false) (f:=(ay.cells false)) bH b
 obtain⟨c,h⟩:=h;obtain⟨e,g,h⟩:=aE h;have f15:=nb c g;obtain⟨i,j,h⟩:=aE h;simp[E,mX1,mX2,hn0,hn1,hn2,neX1,neX2,f10,f12,f15,-aw,-aZ,-xt,fK];refine zA (eE p v9 e ) vz (.cons (.v _ _ _) (.cons (.v _ _ _) (.cons (.v _ _ _) .nil))) (by simp[E,mX1,mX2,hn0,hn1,hn2,neX1,neX2,f10,f12,f15,-aw,-aZ,-xt,fK]) ?_;rintro _ rfl;rw[<- j];rcases Bool.eq_false_or_eq_true i with a | a
 ·replace h:=h.1 a;obtain⟨l,h⟩:=h;obtain⟨o,q,h⟩:=aE h;simp[E,mX1,mX2,hn0,hn1,hn2,neX1,neX2,f10,f12,f15,a,-aw,-aZ,-xt,fK];refine zA (qb v_ p v_'.nodes l) e149 (.cons (bB false v_) (.cons (.v _ _ _) (.cons (ef false v_'.nodes) .nil))) (by simp[E,mX1,mX2,hn0,hn1,hn2,neX1,neX2,f10,f12,f15,a,-aw,-aZ,-xt,fK]) ?_;rintro _ rfl;rw[<- q];simp[E,mX1,mX2,hn0,hn1,hn2,neX1,neX2,f10,f12,f15,a,-aw,-aZ,-xt,fK];exact fin6 (o) _ _ _ h (by refine⟨?_,?_,?_,?_,?_⟩<;>first | ((repeat (first | exact hfr | refine Frame.set (by first | omega | (simp;omega)) ?_));done) | omega | simp[E,mX1,mX2,hn0,hn1,hn2,neX1,neX2,f10,f12,f15,a,-aw,-aZ,-xt,fK])
 replace h:=h.2 a;simp[E,mX1,mX2,hn0,hn1,hn2,neX1,neX2,f10,f12,f15,a,-aw,-aZ,-xt,fK];exact fin6 (true) _ _ _ h (by refine⟨?_,?_,?_,?_,?_⟩<;>first | ((repeat (first | exact hfr | refine Frame.set (by first | omega | (simp;omega)) ?_));done) | omega | simp[E,mX1,mX2,hn0,hn1,hn2,neX1,neX2,f10,f12,f15,a,-aw,-aZ,-xt,fK])
theorem Bg {H0:ax} {n0:Nat} {X1:Id} {X2:Id} (p:Int) (v_:aG) (v_':Match) (hX1:H0 X1=some ⟨6,[bC false v_]⟩) (hX2:H0 X2=some ⟨2,[mC false v_']⟩) (hp:mh p v_ v_'):gI prog H0 n0 (.fn (.func 147) [] [.ptr X1 1 0 0,.ptr X2 1 0 0]) [int p] (fun r=>r=bool (gb p v_ v_')):=(vL p v_ v_' hX1 hX2 _ (zk p v_ v_' hp)).mono (by rintro _ ⟨_,rfl,rfl⟩;rfl)
theorem e91:a8 prog 91:=a8.of func91 (by kernel_rfl) rfl
theorem yu (ar:aG) (I:aG) (m:Match) (Z:Bool->Prop) (h:mF ar I m Z):aF prog 91 [.agg (bC false ar),.agg (bC false I),.agg (mC false m)] (fun r=>∃ y:Bool,Z y/\r=bool y):=by
 unfold mF at h;refine aF.of func91 rfl ntmps91 (by simp) fun Q hQ=>?_
 refine J.cut (fun O H n=>(O 0 = .agg (bC false ar)/\O 1 = .agg (bC false I)/\O 2 = .agg (mC false m))) (by simp) ?_;rintro O H U E;refine zE fun k' V=>?_
 simp[E];apply V;refine J.cut (fun O H n=>(O 3=pA U 3/\O 4=pA (U+1) 4/\O 5=pA (U+2) 5)/\H (U,3)=some ⟨6,[bC false ar]⟩/\H (U+1,4)=some ⟨6,[bC false I]⟩/\H (U+2,5)=some ⟨2,[mC false m]⟩) (by refine⟨?_,?_,?_,?_⟩<;>simp[E]) ?_;clear E;rintro O H n5 ⟨E,e,c,d⟩;refine zS fun k' V=>?_
 obtain⟨J6,hJ7,hr8⟩:=h;have B:∀ (sJ:Bool) (O:Env) (H:ax) (n:Nat),J6 sJ->(match sJ with | b9=>(O 3=pA U 3/\O 4=pA (U+1) 4/\O 5=pA (U+2) 5/\O 25=bool b9)/\H (U,3)=some ⟨6,[bC false ar]⟩/\H (U+1,4)=some ⟨6,[bC false I]⟩/\H (U+2,5)=some ⟨2,[mC false m]⟩)->J prog 91 65 k' O H n Q:=by
  rintro b9 O H n11 h ⟨E,e,c,d⟩;replace h:=hr8 _ h;apply V;refine J.ite (b:=b9) (by simp[E,e,c,d]) (fun db9=>?_) (fun db9=>?_)
  ·replace h:=h.1 db9;refine zE fun k' V=>?_
   simp[E,e,c,d,db9];apply V;exact J.bj (v:=bool false) func91 results91 (by simp[E,e,c,d,db9]) (hQ _ _ _ _ (.of (.v _)) ⟨false,h,rfl⟩)
  replace h:=h.2 db9;apply J.skip;refine zS fun k' V=>?_
  obtain⟨ej,L,h⟩:=aE h;have f13:=fun H=>aN (H:=H) (fr:=false) (f:=aA) aV L
  simp[E,e,c,d,f13,db9,-aZ];apply V;apply J.block;refine J.aI h (fun (sJ:Int) O H n=>match sJ with | q=>(O 3=pA U 3/\O 4=pA (U+1) 4/\O 5=pA (U+2) 5/\O 27 = .list false (m.nodes.map aA)/\O 28=int ej/\O 29=int q)/\H (U,3)=some ⟨6,[bC false ar]⟩/\H (U+1,4)=some ⟨6,[bC false I]⟩/\H (U+2,5)=some ⟨2,[mC false m]⟩) (by refine⟨?_,?_,?_,?_⟩<;>simp[E,e,c,d,db9]) ?_;clear E e c d;rintro q O H n17 K h ⟨E,e,c,d⟩ N;refine zE fun k' V=>?_
  obtain⟨R,T,h⟩:=aE h;have f21:=aX (k:=.i64) T;simp[E,e,c,d,f21,-aw];apply V;apply J.seq;refine J.ite (b:=R) (by simp[E,e,c,d]) (fun g=>?_) (fun g=>?_)
  ·replace h:=h.1 g;apply zK;apply J.block;refine zE fun k' V=>?_
   obtain⟨W,h⟩:=h;obtain⟨C,X,h⟩:=aE h;have f24:=fun H=>aO (H:=H) (fr:=false) (f:=aA) (k:=.i64) aV (fun _=>rfl) W X
   simp[E,e,c,d,f24,g,-av];apply V;refine zE fun k' V=>?_
   obtain⟨Y,ab,ac⟩:=h;have D:∀ (sJ:Bool) (O:Env) (H:ax) (n:Nat),Y sJ->(match sJ with | t=>(O 3=pA U 3/\O 4=pA (U+1) 4/\O 5=pA (U+2) 5/\O 27 = .list false (m.nodes.map aA)/\O 28=int ej/\O 29=int q/\O 45=bool t)/\H (U,3)=some ⟨6,[bC false ar]⟩/\H (U+1,4)=some ⟨6,[bC false I]⟩/\H (U+2,5)=some ⟨2,[mC false m]⟩)->J prog 91 65 k' O H n Q:=by
    rintro t O H n30 h ⟨E,e,c,d⟩;replace h:=ac _ h;apply V;refine J.ite (b:=t) (by simp[E,e,c,d]) (fun o=>?_) (fun o=>?_)
    ·replace h:=h.1 o;refine zE fun k' V=>?_
     simp[E,e,c,d,o];apply V;exact J.bj (v:=bool false) func91 results91 (by simp[E,e,c,d,o]) (hQ _ _ _ _ (.of (.v _)) ⟨false,h,rfl⟩)
    replace h:=h.2 o;apply J.skip;refine zI fun k' V=>?_
    obtain⟨ad,h⟩:=h;obtain⟨v32,af,h⟩:=aE h;have f33:=aR ad af;simp[E,e,c,d,f33,o,-aw];apply V;refine N (v32) _ _ _ h (by refine⟨?_,?_,?_,?_⟩<;>simp[E,e,c,d,o])
   replace h:=ab;obtain⟨am,h⟩:=h;obtain⟨ao,ap,h⟩:=aE h;simp[E,e,c,d,g];refine zA (Co I C am) e145 (.cons (bB false I) (.cons (.v _ _ _) .nil)) (by simp[E,e,c,d,g]) ?_;rintro _ rfl;rw[<- ap];rcases Bool.eq_false_or_eq_true ao with l | l
   ·replace h:=h.1 l;obtain⟨aM,h⟩:=h;obtain⟨F,a0,h⟩:=aE h;have f38:=fun H=>Dv (H:=H) (fr:=false) (f:=aA) (lo:=none) (hi:=some (int q)) (a:=0) (b:=q) (by simp[bJ]) (by simp[bJ]) aV (fun _=>rfl) aM a0
    obtain⟨a1,h⟩:=h;obtain⟨a2,a3,h⟩:=aE h;simp[E,e,c,d,f38,g,l,-cH];refine zA (qt F C a1) e94 (.cons (ef false F) (.cons (.v _ _ _) .nil)) (by simp[E,e,c,d,f38,g,l,-cH]) ?_;rintro _ rfl;rw[<- a3];simp[E,e,c,d,f38,g,l,-cH];exact D (a2) _ _ _ h (by refine⟨?_,?_,?_,?_⟩<;>simp[E,e,c,d,f38,g,l,-cH])
   replace h:=h.2 l;simp[E,e,c,d,g,l];exact D (true) _ _ _ h (by refine⟨?_,?_,?_,?_⟩<;>simp[E,e,c,d,g,l])
  replace h:=h.2 g;refine J.exit rfl ?_;refine zS fun k' V=>?_
  obtain⟨G,h⟩:=h;obtain⟨a4,a5,h⟩:=aE h;simp[E,e,c,d,g];refine bX.nG aB (ec false m.roots (fun z=>gb z I m) G.1 (fun z hz=>Bg z I m c d (G.2 z hz))) GN (by decide) (by decide) rfl (by simp[E,e,c,d,g]) ?_;rintro _ rfl;rw[<- a5];simp[E,e,c,d,g];apply V;refine J.ite (b:=a4) (by simp[E,e,c,d,g]) (fun i=>?_) (fun i=>?_)
  ·replace h:=h.1 i;refine zE fun k' V=>?_
   simp[E,e,c,d,g,i];apply V;exact J.bj (v:=bool false) func91 results91 (by simp[E,e,c,d,g,i]) (hQ _ _ _ _ (.of (.v _)) ⟨false,h,rfl⟩)
  replace h:=h.2 i;apply J.skip;refine zS fun k' V=>?_
  obtain⟨a9,h⟩:=h;obtain⟨u,bd,h⟩:=aE h;simp[E,e,c,d,g,i];refine zA (yI ar I m a9) e150 (.cons (bB false ar) (.cons (bB false I) (.cons (fY false m) .nil))) (by simp[E,e,c,d,g,i]) ?_;rintro _ rfl;rw[<- bd];simp[E,e,c,d,g,i];apply V;refine J.ite (b:=(!u)) (by simp[E,e,c,d,g,i]) (fun j=>?_) (fun j=>?_)
  ·have j:u=false:=by simpa using j
   replace h:=h.2 j;refine zE fun k' V=>?_
   simp[E,e,c,d,g,i,j];apply V;exact J.bj (v:=bool false) func91 results91 (by simp[E,e,c,d,g,i,j]) (hQ _ _ _ _ (.of (.v _)) ⟨false,h,rfl⟩)
  have j:u=true:=by simpa using j
  replace h:=h.1 j;apply J.skip;refine zE fun k' V=>?_
  obtain⟨be,h⟩:=h;obtain⟨A,bi,h⟩:=aE h;simp[E,e,c,d,g,i,j];refine zA ((po ar I m.nodes be).pure) e93 (.cons (bB false ar) (.cons (bB false I) (.cons (ef false m.nodes) .nil))) (by simp[E,e,c,d,g,i,j]) ?_;rintro _ rfl;rw[<- bi];simp[E,e,c,d,g,i,j];apply V;refine J.cut (fun O H n=>O 10=bool A.2) (by simp[E,e,c,d,g,i,j]) ?_;clear E e c d;rintro O H n47 E;refine zE fun k' V=>?_
  simp[E];apply V;exact J.bj (v:=bool A.2) func91 results91 (by simp[E]) (hQ _ _ _ _ (.of (.v _)) ⟨A.2,h,rfl⟩)
 replace h:=hJ7;obtain⟨b5,bk,h⟩:=aE h;have f49:=fun H=>aN (H:=H) (fr:=false) (f:=aA) aV bk
 obtain⟨b7,bs,h⟩:=aE h;have f51:=fun H=>aN (H:=H) (fr:=false) (f:=(ay.cells false)) bH bs
 obtain⟨bv,b0,h⟩:=aE h;have f53:=eo (k:=.i64) b0;rcases Bool.eq_false_or_eq_true bv with p | p
 ·replace h:=h.1 p;simp[E,e,c,d,f49,f51,f53,p,-aw,-aZ];exact B (true) _ _ _ h (by refine⟨?_,?_,?_,?_⟩<;>simp[E,e,c,d,f49,f51,f53,p,-aw,-aZ])
 replace h:=h.2 p;obtain⟨b8,b1,h⟩:=aE h;have f55:=fun H=>aN (H:=H) (fr:=false) (f:=aA) aV b1
 obtain⟨b2,b3,h⟩:=aE h;have f57:=eo (k:=.i64) b3;simp[E,e,c,d,f49,f51,f53,f55,f57,p,-aw,-aZ];exact B (b2) _ _ _ h (by refine⟨?_,?_,?_,?_⟩<;>simp[E,e,c,d,f49,f51,f53,f55,f57,p,-aw,-aZ])
theorem BL (ar:aG) (I:aG) (m:Match) (hp:kr ar I m):aF prog 91 [.agg (bC false ar),.agg (bC false I),.agg (mC false m)] (fun r=>r=bool (isMatch ar I m)):=(yu ar I m _ (Cv ar I m hp)).mono (by rintro _ ⟨_,rfl,rfl⟩;rfl)
theorem e73:a8 prog 73:=a8.of func73 (by kernel_rfl) rfl
theorem sH (sig:List Control) (ar:aG) (I:aG) (Z:Bool->Prop) (h:gZ sig ar I Z):aF prog 73 [.list false (sig.map Control.cells),.agg (bC false ar),.agg (bC false I)] (fun r=>∃ y:Bool,Z y/\r=bool y):=by
 unfold gZ at h;refine aF.of func73 rfl ntmps73 (by simp) fun Q hQ=>?_
 refine J.cut (fun O H n=>(O 0 = .list false (sig.map Control.cells)/\O 1 = .agg (bC false ar)/\O 2 = .agg (bC false I))) (by simp) ?_;rintro O H U E;refine zE fun k' V=>?_
 simp[E];apply V;refine J.cut (fun O H n=>(O 0 = .list false (sig.map Control.cells)/\O 4=pA U 4/\O 5=pA (U+1) 5)/\H (U,4)=some ⟨6,[bC false ar]⟩/\H (U+1,5)=some ⟨6,[bC false I]⟩) (by refine⟨?_,?_,?_⟩<;>simp[E]) ?_;clear E;rintro O H n4 ⟨E,b,c⟩;refine zE fun k' V=>?_
 obtain⟨J5,hJ6,hr7⟩:=h;have fin9:∀ (sJ:Bool) (O:Env) (H:ax) (n:Nat),J5 sJ->(match sJ with | b8=>O 6=bool b8)->J prog 73 19 k' O H n Q:=by
  rintro b8 O H n10 h E;replace h:=hr7 _ h;apply V;exact J.bj (v:=bool b8) func73 results73 (by simp[E]) (hQ _ _ _ _ (.of (.v _)) ⟨b8,h,rfl⟩)
 replace h:=hJ6;obtain⟨e,h⟩:=h;obtain⟨g,i,h⟩:=aE h;simp[E,b,c];refine zA (mb sig ar e) e107 (.cons (j9 false sig) (.cons (bB false ar) .nil)) (by simp[E,b,c]) ?_;rintro _ rfl;rw[<- i];rcases Bool.eq_false_or_eq_true g with a | a
 ·replace h:=h.1 a;obtain⟨j,h⟩:=h;obtain⟨l,o,h⟩:=aE h;simp[E,b,c,a];refine zA (Bk ar j) e108 (.cons (bB false ar) .nil) (by simp[E,b,c,a]) ?_;rintro _ rfl;rw[<- o];rcases Bool.eq_false_or_eq_true l with d | d
  ·replace h:=h.1 d;obtain⟨p,h⟩:=h;obtain⟨q,t,h⟩:=aE h;simp[E,b,c,a,d];refine zA (FD sig I p) e109 (.cons (j9 false sig) (.cons (bB false I) .nil)) (by simp[E,b,c,a,d]) ?_;rintro _ rfl;rw[<- t];simp[E,b,c,a,d];exact fin9 (q) _ _ _ h (by simp[E,b,c,a,d])
  replace h:=h.2 d;simp[E,b,c,a,d];exact fin9 (false) _ _ _ h (by simp[E,b,c,a,d])
 replace h:=h.2 a;simp[E,b,c,a];exact fin9 (false) _ _ _ h (by simp[E,b,c,a])
theorem vp (sig:List Control) (ar:aG) (I:aG) (hp:jO sig ar I):aF prog 73 [.list false (sig.map Control.cells),.agg (bC false ar),.agg (bC false I)] (fun r=>r=bool (pH sig ar I)):=(sH sig ar I _ (vR sig ar I hp)).mono (by rintro _ ⟨_,rfl,rfl⟩;rfl)
theorem e62:a8 prog 62:=a8.of func62 (by kernel_rfl) rfl
theorem u4 (sig:List Control) (ar:aG) (I:aG) (m:Match) (Z:Bool->Prop) (h:iV sig ar I m Z):aF prog 62 [.list false (sig.map Control.cells),.agg (bC false ar),.agg (bC false I),.agg (mC false m)] (fun r=>∃ y:Bool,Z y/\r=bool y):=by
 unfold iV at h;refine aF.of func62 rfl ntmps62 (by simp) fun Q hQ=>?_
 refine J.cut (fun O H n=>(O 0 = .list false (sig.map Control.cells)/\O 1 = .agg (bC false ar)/\O 2 = .agg (bC false I)/\O 3 = .agg (mC false m))) (by simp) ?_;rintro O H U E;refine zE fun k' V=>?_
 simp[E];apply V;refine J.cut (fun O H n=>(O 0 = .list false (sig.map Control.cells)/\O 5=pA U 5/\O 6=pA (U+1) 6/\O 7=pA (U+2) 7)/\H (U,5)=some ⟨6,[bC false ar]⟩/\H (U+1,6)=some ⟨6,[bC false I]⟩/\H (U+2,7)=some ⟨2,[mC false m]⟩) (by refine⟨?_,?_,?_,?_⟩<;>simp[E]) ?_;clear E;rintro O H n5 ⟨E,b,c,d⟩;refine zE fun k' V=>?_
 obtain⟨J6,hJ7,hr8⟩:=h;have e:∀ (sJ:Bool) (O:Env) (H:ax) (n:Nat),J6 sJ->(match sJ with | b9=>O 8=bool b9)->J prog 62 19 k' O H n Q:=by
  rintro b9 O H n11 h E;replace h:=hr8 _ h;apply V;exact J.bj (v:=bool b9) func62 results62 (by simp[E]) (hQ _ _ _ _ (.of (.v _)) ⟨b9,h,rfl⟩)
 replace h:=hJ7;obtain⟨g,h⟩:=h;obtain⟨i,j,h⟩:=aE h;simp[E,b,c,d];refine zA (vp sig ar I g) e73 (.cons (j9 false sig) (.cons (bB false ar) (.cons (bB false I) .nil))) (by simp[E,b,c,d]) ?_;rintro _ rfl;rw[<- j];rcases Bool.eq_false_or_eq_true i with a | a
 ·replace h:=h.1 a;obtain⟨l,h⟩:=h;obtain⟨o,p,h⟩:=aE h;simp[E,b,c,d,a];refine zA (BL ar I m l) e91 (.cons (bB false ar) (.cons (bB false I) (.cons (fY false m) .nil))) (by simp[E,b,c,d,a]) ?_;rintro _ rfl;rw[<- p];simp[E,b,c,d,a];exact e (o) _ _ _ h (by simp[E,b,c,d,a])
 replace h:=h.2 a;simp[E,b,c,d,a];exact e (false) _ _ _ h (by simp[E,b,c,d,a])
theorem yi (sig:List Control) (ar:aG) (I:aG) (m:Match) (hp:kS sig ar I m):aF prog 62 [.list false (sig.map Control.cells),.agg (bC false ar),.agg (bC false I),.agg (mC false m)] (fun r=>r=bool (jr sig ar I m)):=(u4 sig ar I m _ (xI sig ar I m hp)).mono (by rintro _ ⟨_,rfl,rfl⟩;rfl)
end Go.Ab.Vg
namespace Go.Ab.Vg
open Go.Proofs
set_option maxRecDepth 100000
attribute [local simp] Control.cells ay.cells aD.cells aA cp gL aT bC mC pA
theorem e104:a8 prog 104:=a8.of func104 (by kernel_rfl) rfl
theorem xM (sig:List Control) (b:aG) (Z:Bool->Prop) (h:lZ sig b Z):aF prog 104 [.list false (sig.map Control.cells),.agg (bC false b)] (fun r=>∃ y:Bool,Z y/\r=bool y):=by
 unfold lZ at h;refine aF.of func104 rfl ntmps104 (by simp) fun Q hQ=>?_
 refine J.cut (fun O H n=>(O 0 = .list false (sig.map Control.cells)/\O 1 = .agg (bC false b))) (by simp) ?_;rintro O H U E;refine zE fun k' V=>?_
 simp[E];apply V;refine J.cut (fun O H n=>(O 0 = .list false (sig.map Control.cells)/\O 3=pA U 3)/\H (U,3)=some ⟨6,[bC false b]⟩) (by refine⟨?_,?_⟩<;>simp[E]) ?_;clear E;rintro O H n3 ⟨E,c⟩;refine zE fun k' V=>?_
 obtain⟨J4,hJ5,hr6⟩:=h;have fin8:∀ (sJ:Bool) (O:Env) (H:ax) (n:Nat),J4 sJ->(match sJ with | b7=>O 4=bool b7)->J prog 104 12 k' O H n Q:=by
  rintro b7 O H n9 h E;replace h:=hr6 _ h;apply V;exact J.bj (v:=bool b7) func104 results104 (by simp[E]) (hQ _ _ _ _ (.of (.v _)) ⟨b7,h,rfl⟩)
 replace h:=hJ5;obtain⟨d,h⟩:=h;obtain⟨e,g,h⟩:=aE h;simp[E,c];refine zA (ra sig b d) e83 (.cons (j9 false sig) (.cons (bB false b) .nil)) (by simp[E,c]) ?_;rintro _ rfl;rw[<- g];rcases Bool.eq_false_or_eq_true e with a | a
 ·replace h:=h.1 a;obtain⟨i,h⟩:=h;obtain⟨j,l,h⟩:=aE h;simp[E,c,a];refine zA (Cz b i) e160 (.cons (bB false b) .nil) (by simp[E,c,a]) ?_;rintro _ rfl;rw[<- l];simp[E,c,a];exact fin8 (j) _ _ _ h (by simp[E,c,a])
 replace h:=h.2 a;simp[E,c,a];exact fin8 (false) _ _ _ h (by simp[E,c,a])
theorem CI (sig:List Control) (b:aG) (hp:nQ sig b):aF prog 104 [.list false (sig.map Control.cells),.agg (bC false b)] (fun r=>r=bool (ox sig b)):=(xM sig b _ (Bx sig b hp)).mono (by rintro _ ⟨_,rfl,rfl⟩;rfl)
theorem e69:a8 prog 69:=a8.of func69 (by kernel_rfl) rfl
theorem zl (sig:List Control) (ar:aG) (I:aG) (Z:Bool->Prop) (h:oC sig ar I Z):aF prog 69 [.list false (sig.map Control.cells),.agg (bC false ar),.agg (bC false I)] (fun r=>∃ y:Bool,Z y/\r=bool y):=by
 unfold oC at h;refine aF.of func69 rfl ntmps69 (by simp) fun Q hQ=>?_
 refine J.cut (fun O H n=>(O 0 = .list false (sig.map Control.cells)/\O 1 = .agg (bC false ar)/\O 2 = .agg (bC false I))) (by simp) ?_;rintro O H U E;refine zE fun k' V=>?_
 simp[E];apply V;refine J.cut (fun O H n=>(O 0 = .list false (sig.map Control.cells)/\O 4=pA U 4/\O 5=pA (U+1) 5)/\H (U,4)=some ⟨6,[bC false ar]⟩/\H (U+1,5)=some ⟨6,[bC false I]⟩) (by refine⟨?_,?_,?_⟩<;>simp[E]) ?_;clear E;rintro O H n4 ⟨E,b,c⟩;refine zE fun k' V=>?_
 obtain⟨J5,hJ6,hr7⟩:=h;have fin9:∀ (sJ:Bool) (O:Env) (H:ax) (n:Nat),J5 sJ->(match sJ with | b8=>O 6=bool b8)->J prog 69 15 k' O H n Q:=by
  rintro b8 O H n10 h E;replace h:=hr7 _ h;apply V;exact J.bj (v:=bool b8) func69 results69 (by simp[E]) (hQ _ _ _ _ (.of (.v _)) ⟨b8,h,rfl⟩)
 replace h:=hJ6;obtain⟨d,h⟩:=h;obtain⟨e,g,h⟩:=aE h;simp[E,b,c];refine zA (CI sig ar d) e104 (.cons (j9 false sig) (.cons (bB false ar) .nil)) (by simp[E,b,c]) ?_;rintro _ rfl;rw[<- g];rcases Bool.eq_false_or_eq_true e with a | a
 ·replace h:=h.1 a;obtain⟨i,h⟩:=h;obtain⟨j,l,h⟩:=aE h;simp[E,b,c,a];refine zA (Cf sig I i) e105 (.cons (j9 false sig) (.cons (bB false I) .nil)) (by simp[E,b,c,a]) ?_;rintro _ rfl;rw[<- l];simp[E,b,c,a];exact fin9 (j) _ _ _ h (by simp[E,b,c,a])
 replace h:=h.2 a;simp[E,b,c,a];exact fin9 (false) _ _ _ h (by simp[E,b,c,a])
theorem ES (sig:List Control) (ar:aG) (I:aG) (hp:pI sig ar I):aF prog 69 [.list false (sig.map Control.cells),.agg (bC false ar),.agg (bC false I)] (fun r=>r=bool (B1 sig ar I)):=(zl sig ar I _ (FI sig ar I hp)).mono (by rintro _ ⟨_,rfl,rfl⟩;rfl)
theorem e186:a8 prog 186:=a8.of func186 (by kernel_rfl) rfl
theorem vm (ar:aG) (I:aG) (nodes:List Int) (Z:Bool->Prop) (h:kD ar I nodes Z):aF prog 186 [.agg (bC false ar),.agg (bC false I),.list false (nodes.map aA)] (fun r=>∃ y:Bool,Z y/\r=bool y):=by
 unfold kD at h;refine aF.of func186 rfl ntmps186 (by simp) fun Q hQ=>?_
 refine J.cut (fun O H n=>(O 0 = .agg (bC false ar)/\O 1 = .agg (bC false I)/\O 2 = .list false (nodes.map aA))) (by simp) ?_;rintro O H U E;refine zE fun k' V=>?_
 simp[E];apply V;refine J.cut (fun O H n=>(O 2 = .list false (nodes.map aA)/\O 3=pA U 3/\O 4=pA (U+1) 4)/\H (U,3)=some ⟨6,[bC false ar]⟩/\H (U+1,4)=some ⟨6,[bC false I]⟩) (by refine⟨?_,?_,?_⟩<;>simp[E]) ?_;clear E;rintro O H n4 ⟨E,c,d⟩;refine zS fun k' V=>?_
 obtain⟨yv,elen5,h⟩:=aE h;have f6:=fun H=>aN (H:=H) (fr:=false) (f:=aA) aV elen5
 obtain⟨w7,elen7,h⟩:=aE h;have f8:=fun H=>aN (H:=H) (fr:=false) (f:=(ay.cells false)) bH elen7
 obtain⟨c9,ec9,h⟩:=aE h;have f10:=eo (k:=.i64) ec9;simp[E,c,d,f6,f8,f10,-aw,-aZ];apply V;refine J.ite (b:=c9) (by simp[E,c,d]) (fun dc9=>?_) (fun dc9=>?_)
 ·replace h:=h.1 dc9;refine zE fun k' V=>?_
  simp[E,c,d,dc9];apply V;exact J.bj (v:=bool false) func186 results186 (by simp[E,c,d,dc9]) (hQ _ _ _ _ (.of (.v _)) ⟨false,h,rfl⟩)
 replace h:=h.2 dc9;apply J.skip;refine zS fun k' V=>?_
 simp[E,c,d,dc9];apply V;apply J.block;refine J.aI h (fun (sJ:Int) O H n=>match sJ with | i13=>(O 2 = .list false (nodes.map aA)/\O 3=pA U 3/\O 4=pA (U+1) 4/\O 7=int i13)/\H (U,3)=some ⟨6,[bC false ar]⟩/\H (U+1,4)=some ⟨6,[bC false I]⟩) (by refine⟨?_,?_,?_⟩<;>simp[E,c,d,dc9]) ?_;clear E c d;rintro i13 O H n14 K h ⟨E,c,d⟩ u;refine zS fun k' V=>?_
 obtain⟨be,A,h⟩:=aE h;have f18:=fun H=>aN (H:=H) (fr:=false) (f:=aA) aV A
 obtain⟨B,C,h⟩:=aE h;have f20:=aX (k:=.i64) C;simp[E,c,d,f18,f20,-aw,-aZ];apply V;refine J.ite (b:=B) (by simp[E,c,d]) (fun e=>?_) (fun e=>?_)
 ·replace h:=h.1 e;apply zK;apply J.block;refine J.fC aB aP bZ (by decide) (by kernel_rfl) fun k' V=>?_
  obtain⟨D,F,G⟩:=h;have o:∀ (sJ:Bool) (O:Env) (H:ax) (n:Nat),D sJ->(match sJ with | p=>(O 2 = .list false (nodes.map aA)/\O 3=pA U 3/\O 4=pA (U+1) 4/\O 7=int i13/\O 54=bool p)/\H (U,3)=some ⟨6,[bC false ar]⟩/\H (U+1,4)=some ⟨6,[bC false I]⟩)->J prog 186 55 k' O H n Q:=by
   rintro p O H n26 h ⟨E,c,d⟩;replace h:=G _ h;apply V;refine J.ite (b:=p) (by simp[E,c,d]) (fun i=>?_) (fun i=>?_)
   ·replace h:=h.1 i;refine zE fun k' V=>?_
    simp[E,c,d,i];apply V;exact J.bj (v:=bool false) func186 results186 (by simp[E,c,d,i]) (hQ _ _ _ _ (.of (.v _)) ⟨false,h,rfl⟩)
   replace h:=h.2 i;apply J.skip;refine zI fun k' V=>?_
   obtain⟨L,h⟩:=h;obtain⟨v28,N,h⟩:=aE h;have f29:=aR L N;simp[E,c,d,f29,i,-aw];apply V;refine u (v28) _ _ _ h (by refine⟨?_,?_,?_⟩<;>simp[E,c,d,i])
  replace h:=F;obtain⟨R,h⟩:=h;obtain⟨q,l,h⟩:=aE h;have f32:=fun H=>aO (H:=H) (fr:=false) (f:=aA) (k:=.i64) aV (fun _=>rfl) R l
  obtain⟨T,h⟩:=h;obtain⟨W,X,h⟩:=aE h;simp[E,c,d,f32,e,-av];refine bN.dA aB aP (Im I q T) e216 (.cons (bB false I) (.cons (.v _ _ _) .nil)) (by decide) rfl (by simp[E,c,d,f32,e,-av]) ?_;rw[<- X];rcases Bool.eq_false_or_eq_true W with g | g
  ·replace h:=h.1 g;obtain⟨Y,h⟩:=h;obtain⟨t,ab,h⟩:=aE h;have f37:=fun H=>Dv (H:=H) (fr:=false) (f:=aA) (lo:=none) (hi:=some (int i13)) (a:=0) (b:=i13) (by simp[bJ]) (by simp[bJ]) aV (fun _=>rfl) Y ab
   obtain⟨ac,h⟩:=h;obtain⟨bi,ad,h⟩:=aE h;have af:=l.trans ad.symm;subst af;have f41:=fun H=>aO (H:=H) (fr:=false) (f:=aA) (k:=.i64) aV (fun _=>rfl) ac l
   obtain⟨am,h⟩:=h;obtain⟨ao,ap,h⟩:=aE h;simp[E,c,d,f32,f37,f41,e,g,-av,-cH];refine bN.dA aB aP (lB t q am) e85 (.cons (ef false t) (.cons (.v _ _ _) .nil)) (by decide) rfl (by simp[E,c,d,f32,f37,f41,e,g,-av,-cH]) ?_;rw[<- ap];rcases Bool.eq_false_or_eq_true ao with j | j
   ·replace h:=h.1 j;simp[E,c,d,f32,f37,f41,e,g,j,-av,-cH];exact o (true) _ _ _ h (by refine⟨?_,?_,?_⟩<;>simp[E,c,d,f32,f37,f41,e,g,j,-av,-cH])
   replace h:=h.2 j;obtain⟨aM,h⟩:=h;obtain⟨bk,a0,h⟩:=aE h;have a1:=l.trans a0.symm;subst a1;have f47:=fun H=>aO (H:=H) (fr:=false) (f:=aA) (k:=.i64) aV (fun _=>rfl) aM l
   obtain⟨a2,h⟩:=h;obtain⟨bs,a3,h⟩:=aE h;have f50:=fun H=>aO (H:=H) (fr:=false) (f:=(ay.cells false)) (k:=.i64) bH (fun _=>rfl) a2 a3
   obtain⟨a4,h⟩:=h;obtain⟨bv,a5,h⟩:=aE h;have f53:=fun H=>aO (H:=H) (fr:=false) (f:=(ay.cells false)) (k:=.i64) bH (fun _=>rfl) a4 a5
   obtain⟨a9,bd,h⟩:=aE h;have f55:=eo (k:=.i64) bd;simp[E,c,d,f32,f37,f41,f47,f50,f53,f55,e,g,j,-av,-aw,-cH];exact o (a9) _ _ _ h (by refine⟨?_,?_,?_⟩<;>simp[E,c,d,f32,f37,f41,f47,f50,f53,f55,e,g,j,-av,-aw,-cH])
  replace h:=h.2 g;simp[E,c,d,f32,e,g,-av];exact o (true) _ _ _ h (by refine⟨?_,?_,?_⟩<;>simp[E,c,d,f32,e,g,-av])
 replace h:=h.2 e;refine J.exit rfl ?_;refine zE fun k' V=>?_
 simp[E,c,d,e];apply V;exact J.bj (v:=bool true) func186 results186 (by simp[E,c,d,e]) (hQ _ _ _ _ (.of (.v _)) ⟨true,h,rfl⟩)
theorem Ba (ar:aG) (I:aG) (nodes:List Int) (hp:mI ar I nodes):aF prog 186 [.agg (bC false ar),.agg (bC false I),.list false (nodes.map aA)] (fun r=>r=bool (ir ar I nodes)):=(vm ar I nodes _ (zV ar I nodes hp)).mono (by rintro _ ⟨_,rfl,rfl⟩;rfl)
theorem e188:a8 prog 188:=a8.of func188 (by kernel_rfl) rfl
theorem tX (ar:aG) (I:aG) (m:Match) (Z:Bool->Prop) (h:iY ar I m Z):aF prog 188 [.agg (bC false ar),.agg (bC false I),.agg (mC false m)] (fun r=>∃ y:Bool,Z y/\r=bool y):=by
 unfold iY at h;refine aF.of func188 rfl ntmps188 (by simp) fun Q hQ=>?_
 refine J.cut (fun O H n=>(O 0 = .agg (bC false ar)/\O 1 = .agg (bC false I)/\O 2 = .agg (mC false m))) (by simp) ?_;rintro O H U E;refine zE fun _ V=>?_
 simp[E];apply V;refine J.cut (fun O H n=>(O 3=pA U 3/\O 4=pA (U+1) 4/\O 5=pA (U+2) 5)/\H (U,3)=some ⟨6,[bC false ar]⟩/\H (U+1,4)=some ⟨6,[bC false I]⟩/\H (U+2,5)=some ⟨2,[mC false m]⟩) (by refine⟨?_,?_,?_,?_⟩<;>simp[E]) ?_;clear E;rintro O H n5 ⟨E,a,c,d⟩;refine zS fun _ V=>?_
 simp[E,a,c,d];apply V;apply J.block;refine J.aI h (fun (sJ:Int) O H n=>match sJ with | i8=>(O 3=pA U 3/\O 4=pA (U+1) 4/\O 5=pA (U+2) 5/\O 7=int i8)/\H (U,3)=some ⟨6,[bC false ar]⟩/\H (U+1,4)=some ⟨6,[bC false I]⟩/\H (U+2,5)=some ⟨2,[mC false m]⟩) (by refine⟨?_,?_,?_,?_⟩<;>simp[E,a,c,d]) ?_;clear E a c d;rintro i8 O H n9 K h ⟨E,a,c,d⟩ l;refine zS fun _ V=>?_
 obtain⟨ej,t,h⟩:=aE h;have f13:=fun H=>aN (H:=H) (fr:=false) (f:=aA) aV t
 obtain⟨u,A,h⟩:=aE h;have f15:=aX (k:=.i64) A;simp[E,a,c,d,f13,f15,-aw,-aZ];apply V;refine J.ite (b:=u) (by simp[E,a,c,d]) (fun e=>?_) (fun e=>?_)
 ·replace h:=h.1 e;apply zK;apply J.block;refine zE fun _ V=>?_
  simp[E,a,c,d,e];apply V;refine zS fun _ V=>?_
  obtain⟨B,h⟩:=h;obtain⟨C,D,h⟩:=aE h;have f18:=fun H=>aO (H:=H) (fr:=false) (f:=(ay.cells false)) (k:=.i64) bH (fun _=>rfl) B D
  simp[E,a,c,d,f18,e,-av];apply V;refine zE fun _ V=>?_
  obtain⟨o,F,h⟩:=aE h;have f20:=kK (k:=.i64) F;simp[E,a,c,d,f20,e,-aw];apply V;refine J.cut (fun O H n=>(O 3=pA U 3/\O 4=pA (U+1) 4/\O 5=pA (U+2) 5/\O 7=int i8/\O 9=int C.parent/\O 24=bool o)/\H (U,3)=some ⟨6,[bC false ar]⟩/\H (U+1,4)=some ⟨6,[bC false I]⟩/\H (U+2,5)=some ⟨2,[mC false m]⟩) (by refine⟨?_,?_,?_,?_⟩<;>simp[E,a,c,d,f20,e,-aw]) ?_;clear E a c d;rintro O H n21 ⟨E,a,c,d⟩;refine J.ite (b:=o) (by simp[E,a,c,d]) (fun g=>?_) (fun g=>?_)
  ·replace h:=h.1 g;refine zF fun _ V=>?_
   obtain⟨G,h⟩:=h;obtain⟨a4,L,h⟩:=aE h;have f24:=fun H=>aO (H:=H) (fr:=false) (f:=aA) (k:=.i64) aV (fun _=>rfl) G L
   simp[E,a,c,d,f24,g,-av];apply V;refine J.fC aB aP bZ (by decide) (by kernel_rfl) fun _ V=>?_
   obtain⟨N,h⟩:=h;obtain⟨a5,R,h⟩:=aE h;have f27:=fun H=>aO (H:=H) (fr:=false) (f:=aA) (k:=.i64) aV (fun _=>rfl) N R
   obtain⟨T,h⟩:=h;obtain⟨a9,W,h⟩:=aE h;have f30:=fun H=>aO (H:=H) (fr:=false) (f:=(ay.cells false)) (k:=.i64) bH (fun _=>rfl) T W
   obtain⟨p,X,h⟩:=aE h;have f32:=eo (k:=.i64) X;simp[E,a,c,d,f27,f30,f32,g,-av,-aw];apply V;refine J.cut (fun O H n=>(O 3=pA U 3/\O 4=pA (U+1) 4/\O 5=pA (U+2) 5/\O 7=int i8/\O 47=bool p)/\H (U,3)=some ⟨6,[bC false ar]⟩/\H (U+1,4)=some ⟨6,[bC false I]⟩/\H (U+2,5)=some ⟨2,[mC false m]⟩) (by refine⟨?_,?_,?_,?_⟩<;>simp[E,a,c,d,f27,f30,f32,g,-av,-aw]) ?_;clear E a c d;rintro O H n33 ⟨E,a,c,d⟩;refine J.ite (b:=p) (by simp[E,a,c,d]) (fun i=>?_) (fun i=>?_)
   ·replace h:=h.1 i;refine zE fun _ V=>?_
    simp[E,a,c,d,i];apply V;exact J.bj (v:=bool false) func188 results188 (by simp[E,a,c,d,i]) (hQ _ _ _ _ (.of (.v _)) ⟨false,h,rfl⟩)
   replace h:=h.2 i;apply J.skip;refine zI fun _ V=>?_
   obtain⟨Y,h⟩:=h;obtain⟨v35,ab,h⟩:=aE h;have f36:=aR Y ab;simp[E,a,c,d,f36,i,-aw];apply V;refine l (v35) _ _ _ h (by refine⟨?_,?_,?_,?_⟩<;>simp[E,a,c,d,i])
  replace h:=h.2 g;refine zF fun _ V=>?_
  obtain⟨ac,h⟩:=h;obtain⟨bd,ad,h⟩:=aE h;have f39:=nb ac ad;obtain⟨af,h⟩:=h;obtain⟨be,am,h⟩:=aE h;have f42:=fun H=>aO (H:=H) (fr:=false) (f:=aA) (k:=.i64) aV (fun _=>rfl) af am
  simp[E,a,c,d,f39,f42,g,-av,-aw];apply V;refine J.fC aB aP bZ (by decide) (by kernel_rfl) fun _ V=>?_
  obtain⟨ao,h⟩:=h;obtain⟨bi,ap,h⟩:=aE h;have f45:=fun H=>aO (H:=H) (fr:=false) (f:=aA) (k:=.i64) aV (fun _=>rfl) ao ap
  obtain⟨aM,h⟩:=h;obtain⟨bk,a0,h⟩:=aE h;have f48:=fun H=>aO (H:=H) (fr:=false) (f:=(ay.cells false)) (k:=.i64) bH (fun _=>rfl) aM a0
  obtain⟨q,a1,h⟩:=aE h;have f50:=eo (k:=.i64) a1;simp[E,a,c,d,f45,f48,f50,g,-av,-aw];apply V;refine J.cut (fun O H n=>(O 3=pA U 3/\O 4=pA (U+1) 4/\O 5=pA (U+2) 5/\O 7=int i8/\O 47=bool q)/\H (U,3)=some ⟨6,[bC false ar]⟩/\H (U+1,4)=some ⟨6,[bC false I]⟩/\H (U+2,5)=some ⟨2,[mC false m]⟩) (by refine⟨?_,?_,?_,?_⟩<;>simp[E,a,c,d,f45,f48,f50,g,-av,-aw]) ?_;clear E a c d;rintro O H n51 ⟨E,a,c,d⟩;refine J.ite (b:=q) (by simp[E,a,c,d]) (fun j=>?_) (fun j=>?_)
  ·replace h:=h.1 j;refine zE fun _ V=>?_
   simp[E,a,c,d,j];apply V;exact J.bj (v:=bool false) func188 results188 (by simp[E,a,c,d,j]) (hQ _ _ _ _ (.of (.v _)) ⟨false,h,rfl⟩)
  replace h:=h.2 j;apply J.skip;refine zI fun _ V=>?_
  obtain⟨a2,h⟩:=h;obtain⟨v53,a3,h⟩:=aE h;have f54:=aR a2 a3;simp[E,a,c,d,f54,j,-aw];apply V;refine l (v53) _ _ _ h (by refine⟨?_,?_,?_,?_⟩<;>simp[E,a,c,d,j])
 replace h:=h.2 e;refine J.exit rfl ?_;refine zE fun _ V=>?_
 simp[E,a,c,d,e];apply V;exact J.bj (v:=bool true) func188 results188 (by simp[E,a,c,d,e]) (hQ _ _ _ _ (.of (.v _)) ⟨true,h,rfl⟩)
theorem yf (ar:aG) (I:aG) (m:Match) (hp:gX ar I m):aF prog 188 [.agg (bC false ar),.agg (bC false I),.agg (mC false m)] (fun r=>r=bool (fS ar I m)):=(tX ar I m _ (yK ar I m hp)).mono (by rintro _ ⟨_,rfl,rfl⟩;rfl)
theorem e189:a8 prog 189:=a8.of func189 (by kernel_rfl) rfl
theorem ze (ar:aG) (I:aG) (m:Match) (Z:Bool->Prop) (h:oH ar I m Z):aF prog 189 [.agg (bC false ar),.agg (bC false I),.agg (mC false m)] (fun r=>∃ y:Bool,Z y/\r=bool y):=by
 unfold oH at h;refine aF.of func189 rfl ntmps189 (by simp) fun Q hQ=>?_
 refine J.cut (fun O H n=>(O 0 = .agg (bC false ar)/\O 1 = .agg (bC false I)/\O 2 = .agg (mC false m))) (by simp) ?_;rintro O H U E;refine zE fun k' V=>?_
 simp[E];apply V;refine J.cut (fun O H n=>(O 3=pA U 3/\O 4=pA (U+1) 4/\O 5=pA (U+2) 5)/\H (U,3)=some ⟨6,[bC false ar]⟩/\H (U+1,4)=some ⟨6,[bC false I]⟩/\H (U+2,5)=some ⟨2,[mC false m]⟩) (by refine⟨?_,?_,?_,?_⟩<;>simp[E]) ?_;clear E;rintro O H n5 ⟨E,a,c,d⟩;refine zS fun k' V=>?_
 simp[E,a,c,d];apply V;apply J.block;refine J.aI h (fun (sJ:Int) O H n=>match sJ with | i8=>(O 3=pA U 3/\O 4=pA (U+1) 4/\O 5=pA (U+2) 5/\O 7=int i8)/\H (U,3)=some ⟨6,[bC false ar]⟩/\H (U+1,4)=some ⟨6,[bC false I]⟩/\H (U+2,5)=some ⟨2,[mC false m]⟩) (by refine⟨?_,?_,?_,?_⟩<;>simp[E,a,c,d]) ?_;clear E a c d;rintro i8 O H n9 K h ⟨E,a,c,d⟩ t;refine zS fun k' V=>?_
 obtain⟨ej,u,h⟩:=aE h;have f13:=fun H=>aN (H:=H) (fr:=false) (f:=aA) aV u
 obtain⟨A,B,h⟩:=aE h;have f15:=aX (k:=.i64) B;simp[E,a,c,d,f13,f15,-aw,-aZ];apply V;refine J.ite (b:=A) (by simp[E,a,c,d]) (fun i=>?_) (fun i=>?_)
 ·replace h:=h.1 i;apply zK;apply J.block;refine J.fC aB aP bZ (by decide) (by kernel_rfl) fun k' V=>?_
  obtain⟨C,h⟩:=h;obtain⟨D,F,h⟩:=aE h;have f18:=fun H=>aO (H:=H) (fr:=false) (f:=aA) (k:=.i64) aV (fun _=>rfl) C F
  obtain⟨G,h⟩:=h;obtain⟨p,L,h⟩:=aE h;simp[E,a,c,d,f18,i,-av];refine bN.dA aB aP ((wN I D G).pure) e207 (.cons (bB false I) (.cons (.v _ _ _) .nil)) (by decide) rfl (by simp[E,a,c,d,f18,i,-av]) ?_;rw[<- L];simp[E,a,c,d,f18,i,-av];apply V;refine zE fun k' V=>?_
  simp[E,a,c,d,i];apply V;apply J.block;refine J.aI h (fun (sJ:Int) O H n=>match sJ with | k23=>(O 3=pA U 3/\O 4=pA (U+1) 4/\O 5=pA (U+2) 5/\O 7=int i8/\O 8 = .list true (p.map aA)/\O 9=int k23)/\H (U,3)=some ⟨6,[bC false ar]⟩/\H (U+1,4)=some ⟨6,[bC false I]⟩/\H (U+2,5)=some ⟨2,[mC false m]⟩) (by refine⟨?_,?_,?_,?_⟩<;>simp[E,a,c,d,i]) ?_;clear E a c d;rintro k23 O H n24 K h ⟨E,a,c,d⟩ N;refine zS fun k' V=>?_
  obtain⟨R,T,W⟩:=h;have q:∀ (sJ:Bool) (O:Env) (H:ax) (n:Nat),R sJ->(match sJ with | l=>(O 3=pA U 3/\O 4=pA (U+1) 4/\O 5=pA (U+2) 5/\O 7=int i8/\O 8 = .list true (p.map aA)/\O 9=int k23/\O 34=bool l)/\H (U,3)=some ⟨6,[bC false ar]⟩/\H (U+1,4)=some ⟨6,[bC false I]⟩/\H (U+2,5)=some ⟨2,[mC false m]⟩)->J prog 189 45 k' O H n Q:=by
   rintro l O H n32 h ⟨E,a,c,d⟩;replace h:=W _ h;apply V;refine J.ite (b:=l) (by simp[E,a,c,d]) (fun e=>?_) (fun e=>?_)
   ·replace h:=h.1 e;apply zK;apply J.block;refine J.fC aB aP bZ (by decide) (by kernel_rfl) fun k' V=>?_
    obtain⟨X,h⟩:=h;obtain⟨Y,ab,h⟩:=aE h;have f35:=fun H=>aO (H:=H) (fr:=true) (f:=aA) (k:=.i64) aV (fun _=>rfl) X ab
    obtain⟨ac,h⟩:=h;obtain⟨o,ad,h⟩:=aE h;simp[E,a,c,d,f35,e,-av];refine bN.dA aB aP (lB m.nodes Y ac) e85 (.cons (ef false m.nodes) (.cons (.v _ _ _) .nil)) (by decide) rfl (by simp[E,a,c,d,f35,e,-av]) ?_;rw[<- ad];simp[E,a,c,d,f35,e,-av];apply V;refine J.ite (b:=(!o)) (by simp[E,a,c,d,e]) (fun g=>?_) (fun g=>?_)
    ·have g:o=false:=by simpa using g
     replace h:=h.2 g;refine zE fun k' V=>?_
     simp[E,a,c,d,e,g];apply V;exact J.bj (v:=bool false) func189 results189 (by simp[E,a,c,d,e,g]) (hQ _ _ _ _ (.of (.v _)) ⟨false,h,rfl⟩)
    have g:o=true:=by simpa using g
    replace h:=h.1 g;apply J.skip;refine zI fun k' V=>?_
    obtain⟨af,h⟩:=h;obtain⟨v39,am,h⟩:=aE h;have f40:=aR af am;simp[E,a,c,d,f40,e,g,-aw];apply V;refine N (v39) _ _ _ h (by refine⟨?_,?_,?_,?_⟩<;>simp[E,a,c,d,e,g])
   replace h:=h.2 e;refine J.exit rfl ?_;refine zI fun k' V=>?_
   obtain⟨ao,h⟩:=h;obtain⟨ap,aM,h⟩:=aE h;have f43:=aR ao aM;simp[E,a,c,d,f43,e,-aw];apply V;refine t (ap) _ _ _ h (by refine⟨?_,?_,?_,?_⟩<;>simp[E,a,c,d,e])
  replace h:=T;obtain⟨be,a0,h⟩:=aE h;have f45:=fun H=>aN (H:=H) (fr:=true) (f:=aA) aV a0
  obtain⟨a1,a2,h⟩:=aE h;have f47:=aX (k:=.i64) a2;rcases Bool.eq_false_or_eq_true a1 with j | j
  ·replace h:=h.1 j;obtain⟨a3,h⟩:=h;obtain⟨bi,a4,h⟩:=aE h;simp[E,a,c,d,f45,f47,j,-aw,-aZ];refine zA ((pB ar i8 a3).pure) e208 (.cons (bB false ar) (.cons (.v _ _ _) .nil)) (by simp[E,a,c,d,f45,f47,j,-aw,-aZ]) ?_;rintro _ rfl;rw[<- a4];obtain⟨bk,a5,h⟩:=aE h;have f51:=fun H=>aN (H:=H) (fr:=true) (f:=aA) aV a5
   obtain⟨a9,bd,h⟩:=aE h;have f53:=dG (k:=.i64) bd;simp[E,a,c,d,f45,f47,f51,f53,j,-aw,-aZ];exact q (a9) _ _ _ h (by refine⟨?_,?_,?_,?_⟩<;>simp[E,a,c,d,f45,f47,f51,f53,j,-aw,-aZ])
  replace h:=h.2 j;simp[E,a,c,d,f45,f47,j,-aw,-aZ];exact q (false) _ _ _ h (by refine⟨?_,?_,?_,?_⟩<;>simp[E,a,c,d,f45,f47,j,-aw,-aZ])
 replace h:=h.2 i;refine J.exit rfl ?_;refine zE fun k' V=>?_
 simp[E,a,c,d,i];apply V;exact J.bj (v:=bool true) func189 results189 (by simp[E,a,c,d,i]) (hQ _ _ _ _ (.of (.v _)) ⟨true,h,rfl⟩)
theorem DV (ar:aG) (I:aG) (m:Match) (hp:pq ar I m):aF prog 189 [.agg (bC false ar),.agg (bC false I),.agg (mC false m)] (fun r=>r=bool (lY ar I m)):=(ze ar I m _ (EF ar I m hp)).mono (by rintro _ ⟨_,rfl,rfl⟩;rfl)
theorem e217:a8 prog 217:=a8.of func217 (by kernel_rfl) rfl
theorem xb (b:aG) (x:Int) (Z:Bool->Prop) (h:mN b x Z):aF prog 217 [.agg (bC false b),int x] (fun r=>∃ y:Bool,Z y/\r=bool y):=by
 unfold mN at h;refine aF.of func217 rfl ntmps217 (by simp) fun Q hQ=>?_
 refine J.cut (fun O H n=>(O 0 = .agg (bC false b)/\O 1=int x)) (by simp) ?_;rintro O H U E;refine zE fun _ V=>?_
 simp[E];apply V;refine J.cut (fun O H n=>(O 1=int x/\O 2=pA U 2)/\H (U,2)=some ⟨6,[bC false b]⟩) (by refine⟨?_,?_⟩<;>simp[E]) ?_;clear E;rintro O H n3 ⟨E,a⟩;refine zE fun _ V=>?_
 obtain⟨hb4,h⟩:=h;obtain⟨v5,ev5,h⟩:=aE h;have f6:=B6 hb4 ev5;obtain⟨w7,elen7,h⟩:=aE h;have f8:=fun H=>aN (H:=H) (fr:=false) (f:=(ay.cells false)) bH elen7
 obtain⟨hb9,h⟩:=h;obtain⟨v10,d,h⟩:=aE h;have f11:=nb hb9 d;obtain⟨c,e,h⟩:=aE h;simp[E,a,f6,f8,f11,-aw,-aZ,-xt,fK];refine zA (gn x v5 v10) tW (.cons (.v _ _ _) (.cons (.v _ _ _) (.cons (.v _ _ _) .nil))) (by simp[E,a,f6,f8,f11,-aw,-aZ,-xt,fK]) ?_;rintro _ rfl;rw[<- e];simp[E,a,f6,f8,f11,-aw,-aZ,-xt,fK];apply V;exact J.bj (v:=bool c) func217 results217 (by simp[E,a]) (hQ _ _ _ _ (.of (.v _)) ⟨c,h,rfl⟩)
theorem B0 (b:aG) (x:Int) (hp:nx b x):aF prog 217 [.agg (bC false b),int x] (fun r=>r=bool (qx b x)):=(xb b x _ (Dd b x hp)).mono (by rintro _ ⟨_,rfl,rfl⟩;rfl)
theorem e187:a8 prog 187:=a8.of func187 (by kernel_rfl) rfl
theorem vJ (ar:aG) (I:aG) (m:Match) (Z:Bool->Prop) (h:kg ar I m Z):aF prog 187 [.agg (bC false ar),.agg (bC false I),.agg (mC false m)] (fun r=>∃ y:Bool,Z y/\r=bool y):=by
 unfold kg at h;refine aF.of func187 rfl ntmps187 (by simp) fun Q hQ=>?_
 refine J.cut (fun O H n=>(O 0 = .agg (bC false ar)/\O 1 = .agg (bC false I)/\O 2 = .agg (mC false m))) (by simp) ?_;rintro O H U E;refine zE fun k' V=>?_
 simp[E];apply V;refine J.cut (fun O H n=>(O 3=pA U 3/\O 4=pA (U+1) 4/\O 5=pA (U+2) 5)/\H (U,3)=some ⟨6,[bC false ar]⟩/\H (U+1,4)=some ⟨6,[bC false I]⟩/\H (U+2,5)=some ⟨2,[mC false m]⟩) (by refine⟨?_,?_,?_,?_⟩<;>simp[E]) ?_;clear E;rintro O H n5 ⟨E,a,c,d⟩;refine zS fun k' V=>?_
 simp[E,a,c,d];apply V;apply J.block;refine J.aI h (fun (sJ:Int) O H n=>match sJ with | r8=>(O 3=pA U 3/\O 4=pA (U+1) 4/\O 5=pA (U+2) 5/\O 7=int r8)/\H (U,3)=some ⟨6,[bC false ar]⟩/\H (U+1,4)=some ⟨6,[bC false I]⟩/\H (U+2,5)=some ⟨2,[mC false m]⟩) (by refine⟨?_,?_,?_,?_⟩<;>simp[E,a,c,d]) ?_;clear E a c d;rintro r8 O H n9 K h ⟨E,a,c,d⟩ t;refine zS fun k' V=>?_
 obtain⟨ej,u,h⟩:=aE h;have f13:=fun H=>aN (H:=H) (fr:=false) (f:=aA) aV u
 obtain⟨A,B,h⟩:=aE h;have f15:=aX (k:=.i64) B;simp[E,a,c,d,f13,f15,-aw,-aZ];apply V;refine J.ite (b:=A) (by simp[E,a,c,d]) (fun e=>?_) (fun e=>?_)
 ·replace h:=h.1 e;apply zK;apply J.block;refine J.fC aB aP bZ (by decide) (by kernel_rfl) fun k' V=>?_
  obtain⟨C,D,F⟩:=h;have o:∀ (sJ:Bool) (O:Env) (H:ax) (n:Nat),C sJ->(match sJ with | j=>(O 3=pA U 3/\O 4=pA (U+1) 4/\O 5=pA (U+2) 5/\O 7=int r8/\O 32=bool j)/\H (U,3)=some ⟨6,[bC false ar]⟩/\H (U+1,4)=some ⟨6,[bC false I]⟩/\H (U+2,5)=some ⟨2,[mC false m]⟩)->J prog 187 39 k' O H n Q:=by
   rintro j O H n21 h ⟨E,a,c,d⟩;replace h:=F _ h;apply V;refine J.ite (b:=j) (by simp[E,a,c,d]) (fun i=>?_) (fun i=>?_)
   ·replace h:=h.1 i;refine zE fun k' V=>?_
    simp[E,a,c,d,i];apply V;exact J.bj (v:=bool false) func187 results187 (by simp[E,a,c,d,i]) (hQ _ _ _ _ (.of (.v _)) ⟨false,h,rfl⟩)
   replace h:=h.2 i;apply J.skip;refine zI fun k' V=>?_
   obtain⟨G,h⟩:=h;obtain⟨v23,L,h⟩:=aE h;have f24:=aR G L;simp[E,a,c,d,f24,i,-aw];apply V;refine t (v23) _ _ _ h (by refine⟨?_,?_,?_,?_⟩<;>simp[E,a,c,d,i])
  replace h:=D;obtain⟨N,h⟩:=h;obtain⟨p,l,h⟩:=aE h;have f27:=fun H=>aO (H:=H) (fr:=false) (f:=aA) (k:=.i64) aV (fun _=>rfl) N l
  obtain⟨R,h⟩:=h;obtain⟨T,W,h⟩:=aE h;simp[E,a,c,d,f27,e,-av];refine bN.dA aB aP (B0 I p R) e217 (.cons (bB false I) (.cons (.v _ _ _) .nil)) (by decide) rfl (by simp[E,a,c,d,f27,e,-av]) ?_;rw[<- W];rcases Bool.eq_false_or_eq_true T with g | g
  ·replace h:=h.1 g;obtain⟨X,h⟩:=h;obtain⟨ap,Y,h⟩:=aE h;have ab:=l.trans Y.symm;subst ab;have f33:=fun H=>aO (H:=H) (fr:=false) (f:=aA) (k:=.i64) aV (fun _=>rfl) X l
   obtain⟨ac,h⟩:=h;obtain⟨ad,af,h⟩:=aE h;simp[E,a,c,d,f27,f33,e,g,-av];refine bN.dA aB aP (nE I m p ac) e87 (.cons (bB false I) (.cons (fY false m) (.cons (.v _ _ _) .nil))) (by decide) rfl (by simp[E,a,c,d,f27,f33,e,g,-av]) ?_;rw[<- af];simp[E,a,c,d,f27,f33,e,g,-av];exact o (ad) _ _ _ h (by refine⟨?_,?_,?_,?_⟩<;>simp[E,a,c,d,f27,f33,e,g,-av])
  replace h:=h.2 g;simp[E,a,c,d,f27,e,g,-av];exact o (true) _ _ _ h (by refine⟨?_,?_,?_,?_⟩<;>simp[E,a,c,d,f27,e,g,-av])
 replace h:=h.2 e;refine J.exit rfl ?_;refine zE fun k' V=>?_
 obtain⟨aM,am,h⟩:=aE h;have f37:=fun H=>aN (H:=H) (fr:=false) (f:=aA) aV am
 obtain⟨q,ao,h⟩:=aE h;have f39:=dG (k:=.i64) ao;simp[E,a,c,d,f37,f39,e,-aw,-aZ];apply V;exact J.bj (v:=bool q) func187 results187 (by simp[E,a,c,d,e]) (hQ _ _ _ _ (.of (.v _)) ⟨q,h,rfl⟩)
theorem zt (ar:aG) (I:aG) (m:Match) (hp:lR ar I m):aF prog 187 [.agg (bC false ar),.agg (bC false I),.agg (mC false m)] (fun r=>r=bool (gk ar I m)):=(vJ ar I m _ (AQ ar I m hp)).mono (by rintro _ ⟨_,rfl,rfl⟩;rfl)
theorem e144:a8 prog 144:=a8.of func144 (by kernel_rfl) rfl
theorem xg (ar:aG) (I:aG) (m:Match) (link:Int) (Z:(Int × Bool)->Prop) (h:mm ar I m link Z):aF prog 144 [.agg (bC false ar),.agg (bC false I),.agg (mC false m),int link] (fun r=>∃ y:Int × Bool,Z y/\r = .tup [int y.1,bool y.2]):=by
 unfold mm at h;refine aF.of func144 rfl ntmps144 (by simp) fun Q hQ=>?_
 refine J.cut (fun O H n=>(O 0 = .agg (bC false ar)/\O 1 = .agg (bC false I)/\O 2 = .agg (mC false m)/\O 3=int link)) (by simp) ?_;rintro O H U E;refine zE fun k' V=>?_
 simp[E];apply V;refine J.cut (fun O H n=>(O 3=int link/\O 4=pA U 4/\O 5=pA (U+1) 5/\O 6=pA (U+2) 6)/\H (U,4)=some ⟨6,[bC false ar]⟩/\H (U+1,5)=some ⟨6,[bC false I]⟩/\H (U+2,6)=some ⟨2,[mC false m]⟩) (by refine⟨?_,?_,?_,?_⟩<;>simp[E]) ?_;clear E;rintro O H n5 ⟨E,a,c,d⟩;refine zE fun k' V=>?_
 obtain⟨hb6,h⟩:=h;obtain⟨r7,er7,h⟩:=aE h;simp[E,a,c,d];refine zA ((mK ar link hb6).pure) Ic (.cons (bB false ar) (.cons (.v _ _ _) .nil)) (by simp[E,a,c,d]) ?_;rintro _ rfl;rw[<- er7];simp[E,a,c,d];apply V;refine J.fC aB aP bZ (by decide) (by kernel_rfl) fun k' V=>?_
 obtain⟨hb8,h⟩:=h;obtain⟨x9,ex9,h⟩:=aE h;have f10:=fun H=>aO (H:=H) (fr:=true) (f:=cp) (k:=.i64) fp (fun _=>rfl) hb8 ex9
 have f11:=fun H=>zw (H:=H) (k:=.i64) (i:=0) (fr:=true) (cs:=[int x9.1,int x9.2]) rM (by decide)
 obtain⟨B,h⟩:=h;obtain⟨b8,C,h⟩:=aE h;have f14:=fun H=>aO (H:=H) (fr:=false) (f:=aA) (k:=.i64) aV (fun _=>rfl) B C
 obtain⟨D,h⟩:=h;obtain⟨b9,F,h⟩:=aE h;have f17:=fun H=>aO (H:=H) (fr:=false) (f:=(ay.cells false)) (k:=.i64) bH (fun _=>rfl) D F
 obtain⟨G,h⟩:=h;obtain⟨cc,L,h⟩:=aE h;have N:=ex9.trans L.symm;subst N;have f21:=fun H=>aO (H:=H) (fr:=true) (f:=cp) (k:=.i64) fp (fun _=>rfl) G ex9
 have f22:=fun H=>zw (H:=H) (k:=.i64) (i:=1) (fr:=true) (cs:=[int x9.1,int x9.2]) rM (by decide)
 obtain⟨R,h⟩:=h;obtain⟨j,T,h⟩:=aE h;have f25:=fun H=>aO (H:=H) (fr:=false) (f:=aA) (k:=.i64) aV (fun _=>rfl) R T
 simp[E,a,c,d,f10,f11,f14,f17,f21,f22,f25,-av];apply V;refine J.cut (fun O H n=>(O 3=int link/\O 4=pA U 4/\O 5=pA (U+1) 5/\O 6=pA (U+2) 6/\O 10 = .list true (r7.map cp)/\O 11=int j)/\H (U,4)=some ⟨6,[bC false ar]⟩/\H (U+1,5)=some ⟨6,[bC false I]⟩/\H (U+2,6)=some ⟨2,[mC false m]⟩) (by refine⟨?_,?_,?_,?_⟩<;>simp[E,a,c,d,f10,f11,f14,f17,f21,f22,f25,-av]) ?_;clear E a c d;rintro O H n26 ⟨E,a,c,d⟩;refine zS fun k' V=>?_
 simp[E,a,c,d];apply V;apply J.block;refine J.aI h (fun (sJ:Int) O H n=>match sJ with | i29=>(O 3=int link/\O 4=pA U 4/\O 5=pA (U+1) 5/\O 6=pA (U+2) 6/\O 10 = .list true (r7.map cp)/\O 11=int j/\O 12=int i29)/\H (U,4)=some ⟨6,[bC false ar]⟩/\H (U+1,5)=some ⟨6,[bC false I]⟩/\H (U+2,6)=some ⟨2,[mC false m]⟩) (by refine⟨?_,?_,?_,?_⟩<;>simp[E,a,c,d]) ?_;clear E a c d;rintro i29 O H n30 K h ⟨E,a,c,d⟩ W;refine zS fun k' V=>?_
 obtain⟨ce,X,h⟩:=aE h;have f34:=fun H=>aN (H:=H) (fr:=true) (f:=cp) fp X
 obtain⟨Y,ab,h⟩:=aE h;have f36:=aX (k:=.i64) ab;simp[E,a,c,d,f34,f36,-aw,-aZ];apply V;refine J.ite (b:=Y) (by simp[E,a,c,d]) (fun e=>?_) (fun e=>?_)
 ·replace h:=h.1 e;apply zK;apply J.block;refine J.fC aB aP bZ (by decide) (by kernel_rfl) fun k' V=>?_
  obtain⟨ac,h⟩:=h;obtain⟨p,t,h⟩:=aE h;have f39:=fun H=>aO (H:=H) (fr:=true) (f:=cp) (k:=.i64) fp (fun _=>rfl) ac t
  have f40:=fun H=>zw (H:=H) (k:=.i64) (i:=0) (fr:=true) (cs:=[int p.1,int p.2]) rM (by decide)
  obtain⟨ad,h⟩:=h;obtain⟨ci,af,h⟩:=aE h;have f43:=fun H=>aO (H:=H) (fr:=false) (f:=aA) (k:=.i64) aV (fun _=>rfl) ad af
  obtain⟨am,h⟩:=h;obtain⟨cj,ao,h⟩:=aE h;have f46:=fun H=>aO (H:=H) (fr:=false) (f:=(ay.cells false)) (k:=.i64) bH (fun _=>rfl) am ao
  obtain⟨ap,h⟩:=h;obtain⟨ck,aM,h⟩:=aE h;have a0:=t.trans aM.symm;subst a0;have f50:=fun H=>aO (H:=H) (fr:=true) (f:=cp) (k:=.i64) fp (fun _=>rfl) ap t
  have f51:=fun H=>zw (H:=H) (k:=.i64) (i:=1) (fr:=true) (cs:=[int p.1,int p.2]) rM (by decide)
  obtain⟨a1,h⟩:=h;obtain⟨cl,a2,h⟩:=aE h;have f54:=fun H=>aO (H:=H) (fr:=false) (f:=aA) (k:=.i64) aV (fun _=>rfl) a1 a2
  obtain⟨u,a3,h⟩:=aE h;have f56:=eo (k:=.i64) a3;simp[E,a,c,d,f39,f40,f43,f46,f50,f51,f54,f56,e,-av,-aw];apply V;refine J.cut (fun O H n=>(O 3=int link/\O 4=pA U 4/\O 5=pA (U+1) 5/\O 6=pA (U+2) 6/\O 10 = .list true (r7.map cp)/\O 11=int j/\O 12=int i29/\O 63=bool u)/\H (U,4)=some ⟨6,[bC false ar]⟩/\H (U+1,5)=some ⟨6,[bC false I]⟩/\H (U+2,6)=some ⟨2,[mC false m]⟩) (by refine⟨?_,?_,?_,?_⟩<;>simp[E,a,c,d,f39,f40,f43,f46,f50,f51,f54,f56,e,-av,-aw]) ?_;clear E a c d;rintro O H n57 ⟨E,a,c,d⟩;refine J.ite (b:=u) (by simp[E,a,c,d]) (fun o=>?_) (fun o=>?_)
  ·replace h:=h.1 o;refine zE fun k' V=>?_
   simp[E,a,c,d,o];apply V;exact J.vV (v:=int j) (w:=bool false) func144 results144 (by simp[E,a,c,d,o]) (by simp[E,a,c,d,o]) (hQ _ _ _ _ (.of (.zr (.cons (.v _) (.cons (.v _) .nil)))) ⟨(j,false),h,rfl⟩)
  replace h:=h.2 o;apply J.skip;refine zI fun k' V=>?_
  obtain⟨a4,h⟩:=h;obtain⟨v59,a5,h⟩:=aE h;have f60:=aR a4 a5;simp[E,a,c,d,f60,o,-aw];apply V;refine W (v59) _ _ _ h (by refine⟨?_,?_,?_,?_⟩<;>simp[E,a,c,d,o])
 replace h:=h.2 e;refine J.exit rfl ?_;refine zS fun k' V=>?_
 obtain⟨a9,bd,h⟩:=aE h;have f62:=aX (k:=.i64) bd;simp[E,a,c,d,f62,e,-aw];apply V;refine J.ite (b:=a9) (by simp[E,a,c,d,e]) (fun g=>?_) (fun g=>?_)
 ·replace h:=h.1 g;refine zE fun k' V=>?_
  obtain⟨be,bi,bk⟩:=h;have A:∀ (sJ:Bool) (O:Env) (H:ax) (n:Nat),be sJ->(match sJ with | q=>(O 8=int j/\O 9=bool q))->J prog 144 84 k' O H n Q:=by
   rintro q O H n68 h E;replace h:=bk _ h;apply V;exact J.vV (v:=int j) (w:=bool q) func144 results144 (by simp[E]) (by simp[E]) (hQ _ _ _ _ (.of (.zr (.cons (.v _) (.cons (.v _) .nil)))) ⟨(j,q),h,rfl⟩)
  replace h:=bi;obtain⟨bs,bv,h⟩:=aE h;have f70:=aX (k:=.i64) bv;rcases Bool.eq_false_or_eq_true bs with l | l
  ·replace h:=h.1 l;obtain⟨b0,h⟩:=h;obtain⟨co,b1,h⟩:=aE h;simp[E,a,c,d,f70,e,g,l,-aw];refine zA ((mK I j b0).pure) Ic (.cons (bB false I) (.cons (.v _ _ _) .nil)) (by simp[E,a,c,d,f70,e,g,l,-aw]) ?_;rintro _ rfl;rw[<- b1];obtain⟨c0,b2,h⟩:=aE h;have f74:=fun H=>aN (H:=H) (fr:=true) (f:=cp) fp b2
   obtain⟨c1,b3,h⟩:=aE h;have f76:=fun H=>aN (H:=H) (fr:=true) (f:=cp) fp b3
   obtain⟨b5,b7,h⟩:=aE h;have f78:=dG (k:=.i64) b7;simp[E,a,c,d,f70,f74,f76,f78,e,g,l,-aw,-aZ];exact A (b5) _ _ _ h (by simp[E,a,c,d,f70,f74,f76,f78,e,g,l,-aw,-aZ])
  replace h:=h.2 l;simp[E,a,c,d,f70,e,g,l,-aw];exact A (false) _ _ _ h (by simp[E,a,c,d,f70,e,g,l,-aw])
 replace h:=h.2 g;apply J.skip;refine zE fun k' V=>?_
 simp[E,a,c,d,e,g];apply V;exact J.vV (v:=int j) (w:=bool true) func144 results144 (by simp[E,a,c,d,e,g]) (by simp[E,a,c,d,e,g]) (hQ _ _ _ _ (.of (.zr (.cons (.v _) (.cons (.v _) .nil)))) ⟨(j,true),h,rfl⟩)
theorem CJ (ar:aG) (I:aG) (m:Match) (link:Int) (hp:nM ar I m link):aF prog 144 [.agg (bC false ar),.agg (bC false I),.agg (mC false m),int link] (fun r=>r = .tup [int ((jl ar I m link).1),bool ((jl ar I m link).2)]):=(xg ar I m link _ (BS ar I m link hp)).mono (by rintro _ ⟨_,rfl,rfl⟩;rfl)
theorem e84:a8 prog 84:=a8.of func84 (by kernel_rfl) rfl
theorem w5 (ar:aG) (I:aG) (m:Match) (Z:((List Int) × Bool)->Prop) (h:lH ar I m Z):bn prog 84 [.agg (bC false ar),.agg (bC false I),.agg (mC false m)] (.t [.s [.c],.c]) (fun r=>∃ y:(List Int) × Bool,Z y/\r = .tup [.list true (y.1.map aA),bool y.2]):=by
 unfold lH at h;have M:Sep bx 0 [] []:=Sep.nil (by simp);refine bn.of func84 rfl ntmps84 (by simp) fun Q hQ=>?_
 refine J.cut (fun O H n=>(O 0 = .agg (bC false ar)/\O 1 = .agg (bC false I)/\O 2 = .agg (mC false m))/\Sep H n [] []) (by refine⟨by simp ,M⟩) ?_;rintro O H U ⟨E,M⟩;refine zE fun _ V=>?_
 simp[E];apply V;refine J.cut (fun O H n=>((O 3=pA U 3/\O 4=pA (U+1) 4/\O 5=pA (U+2) 5)/\H (U,3)=some ⟨6,[bC false ar]⟩/\H (U+1,4)=some ⟨6,[bC false I]⟩/\H (U+2,5)=some ⟨2,[mC false m]⟩)/\Sep H n [] [(U+2,5),(U+1,4),(U,3)]) (by refine⟨by simp[E],M.var.var.var⟩) ?_;clear E;rintro O H n5 ⟨⟨E,a,d,e⟩,M⟩;refine zE fun _ V=>?_
 simp[E,a,d,e];apply V;refine J.cut (fun O H n=>∃ (v7:au),((O 3=pA U 3/\O 4=pA (U+1) 4/\O 5=pA (U+2) 5/\O 8=v7)/\H (U,3)=some ⟨6,[bC false ar]⟩/\H (U+1,4)=some ⟨6,[bC false I]⟩/\H (U+2,5)=some ⟨2,[mC false m]⟩)/\Sep H n [oI v7 ([]:List Int)] [(U+2,5),(U+1,4),(U,3)]) (by refine⟨.arr (n5,12) 0 0 0,by simp[E,a,d,e],(Sep.addEmpty (l:=[.c]) M)⟩) ?_;clear E a d e;rintro O H n8 ⟨v7,⟨E,a,d,e⟩,M⟩;refine zS fun _ V=>?_
 simp[E,a,d,e];apply V;apply J.block;refine J.aI h (fun (sJ:Int × (List Int)) O H n=>match sJ with | (link16,o)=>∃ (j:au),((O 3=pA U 3/\O 4=pA (U+1) 4/\O 5=pA (U+2) 5/\O 8=j/\O 9=int link16)/\H (U,3)=some ⟨6,[bC false ar]⟩/\H (U+1,4)=some ⟨6,[bC false I]⟩/\H (U+2,5)=some ⟨2,[mC false m]⟩)/\Sep H n [oI j o] [(U+2,5),(U+1,4),(U,3)]) (by refine⟨v7,by simp[E,a,d,e],M⟩) ?_;clear E a d e;rintro⟨link16,o⟩ O H n19 K h ⟨j,⟨E,a,d,e⟩,M⟩ A;refine zS fun _ V=>?_
 obtain⟨ac,B,h⟩:=aE h;have f23:=fun H=>aN (H:=H) (fr:=false) (f:=aT) bY B
 obtain⟨C,h⟩:=h;obtain⟨v25,D,h⟩:=aE h;have f26:=aR C D;obtain⟨F,G,h⟩:=aE h;have f28:=aX (k:=.i64) G;simp[E,a,d,e,f23,f26,f28,-aw,-aZ];apply V;refine J.ite (b:=F) (by simp[E,a,d,e]) (fun g=>?_) (fun g=>?_)
 ·replace h:=h.1 g;apply zK;apply J.block;refine zE fun _ V=>?_
  obtain⟨L,h⟩:=h;obtain⟨i,N,h⟩:=aE h;simp[E,a,d,e,g];refine zA (CJ ar I m link16 L) e144 (.cons (bB false ar) (.cons (bB false I) (.cons (fY false m) (.cons (.v _ _ _) .nil)))) (by simp[E,a,d,e,g]) ?_;rintro _ rfl;rw[<- N];simp[E,a,d,e,g];apply V;refine J.cut (fun O H n=>∃ (v31:au),((O 3=pA U 3/\O 4=pA (U+1) 4/\O 5=pA (U+2) 5/\O 8=v31/\O 9=int link16/\O 10=int i.1/\O 11=bool i.2)/\H (U,3)=some ⟨6,[bC false ar]⟩/\H (U+1,4)=some ⟨6,[bC false I]⟩/\H (U+2,5)=some ⟨2,[mC false m]⟩)/\Sep H n [oI v31 o] [(U+2,5),(U+1,4),(U,3)]) (by refine⟨j,by simp[E,a,d,e,g],M⟩) ?_;clear E a d e;rintro O H n32 ⟨v31,⟨E,a,d,e⟩,M⟩;refine zS fun _ V=>?_
  simp[E,a,d,e];apply V;refine J.ite (b:=(!i.2)) (by simp[E,a,d,e]) (fun dr30_2=>?_) (fun dr30_2=>?_)
  ·have dr30_2:i.2=false:=by simpa using dr30_2
   replace h:=h.2 dr30_2;refine zE fun _ V=>?_
   simp[E,a,d,e,dr30_2];apply V;refine J.cut (fun O H n=>∃ (p:au),(O 6=p/\O 7=bool false)/\Sep H n [oI p ([]:List Int)] []) (by refine⟨.arr (n32,33) 0 0 0,by simp[E,a,d,e,dr30_2],(Sep.sub (Sep.dr (Sep.f1 (Sep.addEmpty (l:=[.c]) M))) (by simp +contextual))⟩) ?_;clear E a d e;rintro O H n35 ⟨p,E,M⟩;exact J.vV (v:=p) (w:=bool false) func84 results84 (by simp[E]) (by simp[E]) (hQ _ _ _ _ (Sep.sub (dn:=[]) (Sep.gH (aK.own (aK.v _ aK.nil)) M) (by simp)) ⟨(([]:List Int),false),h,rfl⟩)
  have dr30_2:i.2=true:=by simpa using dr30_2
  replace h:=h.1 dr30_2;apply J.skip;refine zF fun _ V=>?_
  obtain⟨R,h⟩:=h;obtain⟨q,T,h⟩:=aE h;simp[E,a,d,e,dr30_2,-bb];refine bf [] [] [[int i.1]] [aA i.1] M aV (by simp) (by simp) (by simp) (by simp[-aH,bc]) (bo (aK.v _ aK.nil)) (by simp) (by simpa using R) ?_;rintro v39 W n41 M u ad;replace M:Sep W n41 [oI v39 q] [(U+2,5),(U+1,4),(U,3)]:=Sep.ap T M;have a:=(u _ (by simp)).trans a;have d:=(u _ (by simp)).trans d;have e:=(u _ (by simp)).trans e;simp[E,a,d,e,dr30_2];apply V;refine J.cut (fun O H n=>∃ (v45:au),((O 3=pA U 3/\O 4=pA (U+1) 4/\O 5=pA (U+2) 5/\O 8=v45/\O 9=int link16)/\H (U,3)=some ⟨6,[bC false ar]⟩/\H (U+1,4)=some ⟨6,[bC false I]⟩/\H (U+2,5)=some ⟨2,[mC false m]⟩)/\Sep H n [oI v45 q] [(U+2,5),(U+1,4),(U,3)]) (by refine⟨v39,by simp[E,a,d,e,dr30_2],M⟩) ?_;clear E a d e;rintro O H n46 ⟨v45,⟨E,a,d,e⟩,M⟩;refine zI fun _ V=>?_
  obtain⟨X,h⟩:=h;obtain⟨Y,ab,h⟩:=aE h;have f49:=aR X ab;simp[E,a,d,e,f49,-aw];apply V;refine A (Y,q) _ _ _ h (by refine⟨v45,by simp[E,a,d,e],M⟩)
 replace h:=h.2 g;refine J.exit rfl ?_;refine zE fun _ V=>?_
 simp[E,a,d,e,g];apply V;exact J.vV (v:=j) (w:=bool true) func84 results84 (by simp[E,a,d,e,g]) (by simp[E,a,d,e,g]) (hQ _ _ _ _ (Sep.sub (dn:=[]) (Sep.gH (aK.own (aK.v _ aK.nil)) M) (by simp)) ⟨(o,true),h,rfl⟩)
theorem vc (ar:aG) (I:aG) (m:Match) (hp:kt ar I m):bn prog 84 [.agg (bC false ar),.agg (bC false I),.agg (mC false m)] (.t [.s [.c],.c]) (fun r=>r = .tup [.list true (((ie ar I m).1).map aA),bool ((ie ar I m).2)]):=(w5 ar I m _ (B5 ar I m hp)).mono (by rintro _ ⟨_,rfl,rfl⟩;rfl)
theorem e132:a8 prog 132:=a8.of func132 (by kernel_rfl) rfl
theorem xy (ar:aG) (I:aG) (m:Match) (Z:Bool->Prop) (h:mA ar I m Z):aF prog 132 [.agg (bC false ar),.agg (bC false I),.agg (mC false m)] (fun r=>∃ y:Bool,Z y/\r=bool y):=by
 unfold mA at h;refine aF.of func132 rfl ntmps132 (by simp) fun Q hQ=>?_
 refine J.cut (fun O H n=>(O 0 = .agg (bC false ar)/\O 1 = .agg (bC false I)/\O 2 = .agg (mC false m))) (by simp) ?_;rintro O H U E;refine zE fun k' V=>?_
 simp[E];apply V;refine J.cut (fun O H n=>(O 3=pA U 3/\O 4=pA (U+1) 4/\O 5=pA (U+2) 5)/\H (U,3)=some ⟨6,[bC false ar]⟩/\H (U+1,4)=some ⟨6,[bC false I]⟩/\H (U+2,5)=some ⟨2,[mC false m]⟩) (by refine⟨?_,?_,?_,?_⟩<;>simp[E]) ?_;clear E;rintro O H n5 ⟨E,a,c,d⟩;refine zS fun k' V=>?_
 obtain⟨J6,hJ7,hr8⟩:=h;have j:∀ (sJ:Bool) (O:Env) (H:ax) (n:Nat),J6 sJ->(match sJ with | b9=>(O 3=pA U 3/\O 4=pA (U+1) 4/\O 5=pA (U+2) 5/\O 35=bool b9)/\H (U,3)=some ⟨6,[bC false ar]⟩/\H (U+1,4)=some ⟨6,[bC false I]⟩/\H (U+2,5)=some ⟨2,[mC false m]⟩)->J prog 132 44 k' O H n Q:=by
  rintro b9 O H n11 h ⟨E,a,c,d⟩;replace h:=hr8 _ h;apply V;refine J.ite (b:=b9) (by simp[E,a,c,d]) (fun db9=>?_) (fun db9=>?_)
  ·replace h:=h.1 db9;refine zE fun k' V=>?_
   simp[E,a,c,d,db9];apply V;exact J.bj (v:=bool false) func132 results132 (by simp[E,a,c,d,db9]) (hQ _ _ _ _ (.of (.v _)) ⟨false,h,rfl⟩)
  replace h:=h.2 db9;apply J.skip;refine zE fun k' V=>?_
  obtain⟨o,h⟩:=h;obtain⟨l,p,h⟩:=aE h;simp[E,a,c,d,db9];refine zA ((vc ar I m o).pure) e84 (.cons (bB false ar) (.cons (bB false I) (.cons (fY false m) .nil))) (by simp[E,a,c,d,db9]) ?_;rintro _ rfl;rw[<- p];simp[E,a,c,d,db9];apply V;refine zE fun k' V=>?_
  simp[E,a,c,d,db9];apply V;exact J.bj (v:=bool l.2) func132 results132 (by simp[E,a,c,d,db9]) (hQ _ _ _ _ (.of (.v _)) ⟨l.2,h,rfl⟩)
 replace h:=hJ7;obtain⟨q,h⟩:=h;obtain⟨t,u,h⟩:=aE h;simp[E,a,c,d];refine zA (Ba ar I m.nodes q) e186 (.cons (bB false ar) (.cons (bB false I) (.cons (ef false m.nodes) .nil))) (by simp[E,a,c,d]) ?_;rintro _ rfl;rw[<- u];rcases Bool.eq_false_or_eq_true t with e | e
 ·replace h:=h.1 e;obtain⟨A,h⟩:=h;obtain⟨B,C,h⟩:=aE h;simp[E,a,c,d,e];refine zA (zt ar I m A) e187 (.cons (bB false ar) (.cons (bB false I) (.cons (fY false m) .nil))) (by simp[E,a,c,d,e]) ?_;rintro _ rfl;rw[<- C];rcases Bool.eq_false_or_eq_true B with g | g
  ·replace h:=h.1 g;obtain⟨D,h⟩:=h;obtain⟨F,G,h⟩:=aE h;simp[E,a,c,d,e,g];refine zA (yf ar I m D) e188 (.cons (bB false ar) (.cons (bB false I) (.cons (fY false m) .nil))) (by simp[E,a,c,d,e,g]) ?_;rintro _ rfl;rw[<- G];rcases Bool.eq_false_or_eq_true F with i | i
   ·replace h:=h.1 i;obtain⟨K,h⟩:=h;obtain⟨L,N,h⟩:=aE h;simp[E,a,c,d,e,g,i];refine zA (DV ar I m K) e189 (.cons (bB false ar) (.cons (bB false I) (.cons (fY false m) .nil))) (by simp[E,a,c,d,e,g,i]) ?_;rintro _ rfl;rw[<- N];simp[E,a,c,d,e,g,i];exact j ((!L)) _ _ _ h (by refine⟨?_,?_,?_,?_⟩<;>simp[E,a,c,d,e,g,i])
   replace h:=h.2 i;simp[E,a,c,d,e,g,i];exact j (true) _ _ _ h (by refine⟨?_,?_,?_,?_⟩<;>simp[E,a,c,d,e,g,i])
  replace h:=h.2 g;simp[E,a,c,d,e,g];exact j (true) _ _ _ h (by refine⟨?_,?_,?_,?_⟩<;>simp[E,a,c,d,e,g])
 replace h:=h.2 e;simp[E,a,c,d,e];exact j (true) _ _ _ h (by refine⟨?_,?_,?_,?_⟩<;>simp[E,a,c,d,e])
theorem Cy (ar:aG) (I:aG) (m:Match) (hp:nu ar I m):aF prog 132 [.agg (bC false ar),.agg (bC false I),.agg (mC false m)] (fun r=>r=bool (yT ar I m)):=(xy ar I m _ (C6 ar I m hp)).mono (by rintro _ ⟨_,rfl,rfl⟩;rfl)
theorem e81:a8 prog 81:=a8.of func81 (by kernel_rfl) rfl
theorem xz (sig:List Control) (ar:aG) (I:aG) (m:Match) (Z:Bool->Prop) (h:mP sig ar I m Z):aF prog 81 [.list false (sig.map Control.cells),.agg (bC false ar),.agg (bC false I),.agg (mC false m)] (fun r=>∃ y:Bool,Z y/\r=bool y):=by
 unfold mP at h;refine aF.of func81 rfl ntmps81 (by simp) fun Q hQ=>?_
 refine J.cut (fun O H n=>(O 0 = .list false (sig.map Control.cells)/\O 1 = .agg (bC false ar)/\O 2 = .agg (bC false I)/\O 3 = .agg (mC false m))) (by simp) ?_;rintro O H U E;refine zE fun k' V=>?_
 simp[E];apply V;refine J.cut (fun O H n=>(O 0 = .list false (sig.map Control.cells)/\O 5=pA U 5/\O 6=pA (U+1) 6/\O 7=pA (U+2) 7)/\H (U,5)=some ⟨6,[bC false ar]⟩/\H (U+1,6)=some ⟨6,[bC false I]⟩/\H (U+2,7)=some ⟨2,[mC false m]⟩) (by refine⟨?_,?_,?_,?_⟩<;>simp[E]) ?_;clear E;rintro O H n5 ⟨E,b,c,d⟩;refine zE fun k' V=>?_
 obtain⟨J6,hJ7,hr8⟩:=h;have e:∀ (sJ:Bool) (O:Env) (H:ax) (n:Nat),J6 sJ->(match sJ with | b9=>O 8=bool b9)->J prog 81 19 k' O H n Q:=by
  rintro b9 O H n11 h E;replace h:=hr8 _ h;apply V;exact J.bj (v:=bool b9) func81 results81 (by simp[E]) (hQ _ _ _ _ (.of (.v _)) ⟨b9,h,rfl⟩)
 replace h:=hJ7;obtain⟨g,h⟩:=h;obtain⟨i,j,h⟩:=aE h;simp[E,b,c,d];refine zA (ES sig ar I g) e69 (.cons (j9 false sig) (.cons (bB false ar) (.cons (bB false I) .nil))) (by simp[E,b,c,d]) ?_;rintro _ rfl;rw[<- j];rcases Bool.eq_false_or_eq_true i with a | a
 ·replace h:=h.1 a;obtain⟨l,h⟩:=h;obtain⟨o,p,h⟩:=aE h;simp[E,b,c,d,a];refine zA (Cy ar I m l) e132 (.cons (bB false ar) (.cons (bB false I) (.cons (fY false m) .nil))) (by simp[E,b,c,d,a]) ?_;rintro _ rfl;rw[<- p];simp[E,b,c,d,a];exact e (o) _ _ _ h (by simp[E,b,c,d,a])
 replace h:=h.2 a;simp[E,b,c,d,a];exact e (false) _ _ _ h (by simp[E,b,c,d,a])
theorem CB (sig:List Control) (ar:aG) (I:aG) (m:Match) (hp:nS sig ar I m):aF prog 81 [.list false (sig.map Control.cells),.agg (bC false ar),.agg (bC false I),.agg (mC false m)] (fun r=>r=bool (oT sig ar I m)):=(xz sig ar I m _ (BT sig ar I m hp)).mono (by rintro _ ⟨_,rfl,rfl⟩;rfl)
end Go.Ab.Vg
