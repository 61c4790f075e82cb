/- Merged texts (13 of 18) of the proof that ends in Sty: ae Kqw Maw Mbw Mcw Lmt. -/
import Derived.Test.YtkocdlgoncmdbaaGreatDoorAbQst12
open Go.Proofs.Tryz
set_option linter.unusedSimpArgs false
set_option linter.unusedVariables false
namespace Go.Ab
def cx:Op->Nat
 | .move _ | .assign _ | .pick .. | .binOp .. | .unOp .. | .convert .. | .makeFunc .. | .extract .. | .field .. | .index .. | .build ..=>0
 | .load .. | .fieldAddr .. | .indexAddr .. | .nilCheck _ | .call ⟨.builtin .len,_,_⟩=>1
 | .alloc _=>3
 | .store ..=>4
 | _=>2
def ng (a b:Nat):Bool:=a == 0 || b == 0 || (a == 1 && (b == 1 || b == 3 || b == 4)) || (a == 3 && (b == 1 || b == 3 || b == 4)) || (a == 4 && (b == 1 || b == 3))
def B0 (n0:Nat):au->Prop
 | .ptr id _ _ _ | .arr id _ _ _=>id.1<n0
 | _=>True
def dS (n0:Nat) (op:Op) (O:Env):Prop:=
 match op with
 | .load _ a | .fieldAddr _ a _ | .nilCheck a=>B0 n0 (O.ev a)
 | .indexAddr _ x _=>B0 n0 (O.ev x)
 | .call ⟨.builtin .len,args,_⟩=>∀ x ∈ args.toList,B0 n0 (O.ev x)
 | .store _ a _=>∃ id g idx off,O.ev a = .ptr id g idx off/\n0<=id.1
 | _=>cx op=0
theorem jt {n0:Nat} {H H2:ax} (hag:∀ id:Id,id.1<n0->H2 id=H id) {p:au} (hp:B0 n0 p):cK H2 p=cK H p:=by
 cases p with
 | ptr id g idx off=>simp only[cK];rw[hag id hp]
 | _=>rfl
theorem qM {n0:Nat} {H H2:ax} (hag:∀ id:Id,id.1<n0->H2 id=H id) {id:Id} {g:Nat} (hp:id.1<n0):live H2 id g=live H id g:=by
 unfold live;rw[hag id hp]
section
variable {Ty:Types} {O:Env} {H H2 H':ax} {n n2 n' n0:Nat} {d:Option Tmp} {v:au} {op:Op}
theorem gS (hk:cx op=0) (h:bc Ty d op O H n=some (v,H',n')):H'=H/\n'=n/\∀ H2 n2,bc Ty d op O H2 n2=some (v,H2,n2):=by
 refine kg ?_ h;cases op with
 | call c=>
  obtain⟨cal,args,ats⟩:=c;cases cal with
  | builtin b=>cases b<;>simp[cx] at hk
  | _=>simp[cx] at hk
 | _=>first | rfl | (simp[cx] at hk)
theorem eD (hk:cx op=1) (hc:dS n0 op O) (hag:∀ id:Id,id.1<n0->H2 id=H id) (h:bc Ty d op O H n=some (v,H',n')):H'=H/\n'=n/\bc Ty d op O H2 n2=some (v,H2,n2):=by
 cases op with
 | load t a=>
  simp only[bc] at h ⊢;rw[jt hag hc]
  split at h
  ·split at h
   ·cases h;exact⟨rfl,rfl,rfl⟩
   ·cases h
  ·cases h
 | fieldAddr t a f=>
  simp only[bc] at h ⊢;rw[jt hag hc]
  split at h
  ·split at h
   ·split at h
    ·cases h
    ·rename_i hz
     cases h;exact⟨rfl,rfl,by rw[if_neg hz]⟩
   ·cases h
  ·cases h
 | nilCheck a=>
  simp only[bc] at h ⊢;rw[jt hag hc]
  split at h
  ·cases h;exact⟨rfl,rfl,rfl⟩
  ·cases h
 | indexAddr t x ix=>
  obtain⟨h1,h2,h3⟩:=bZ h;refine⟨h2,h3,?_⟩;have:ar Ty H2 t (O.ev x) (O.ev ix)=ar Ty H t (O.ev x) (O.ev ix):=by
   simp only[dS] at hc;unfold ar
   split
   ·generalize O.ev x=p at hc;cases hkd:kd Ty t with
    | slice j=>cases p with
     | arr id g off len=>simp only[qM hag (show id.1<n0 from hc)]
     | _=>rfl
    | arr len j=>simp only[jt hag hc]
    | _=>rfl
   ·rfl
  simp only[bc,this,h1,Option.map_some]
 | call c=>
  obtain⟨cal,args,ats⟩:=c;cases cal with
  | builtin b=>
   cases b<;>simp[cx] at hk;simp only[bc] at h ⊢
   split at h
   ·rename_i x t hx ht
    obtain⟨h1,h2,h3⟩:=bZ h;refine⟨h2,h3,?_⟩;have hcx:B0 n0 (O.ev x):=hc x (by rw[hx];simp);have:aL Ty H2 t (O.ev x)=aL Ty H t (O.ev x):=by
     unfold aL;generalize O.ev x=p at hcx;cases hkd:kd Ty t with
     | slice j=>cases p with
      | arr id g off len=>simp only[qM hag (show id.1<n0 from hcx)]
      | v x=>cases x<;>rfl
      | _=>rfl
     | string=>cases p with
      | v x=>cases x<;>rfl
      | _=>rfl
     | _=>rfl
    simp only[this,h1,Option.map_some]
   ·cases h
  | _=>simp[cx] at hk
 | _=>simp[cx] at hk
def tgt:Op->Env->Option Id
 | .store _ a _,O=>match O.ev a with
  | .ptr id _ _ _=>some id
  | _=>none
 | _,_=>none
theorem gY (hk:cx op=4) (hc:dS n0 op O) (h:bc Ty d op O H n=some (v,H',n')) :
  ∃ id ob ob',tgt op O=some id/\n0<=id.1/\H id=some ob/\H'=H.set id ob'/\n'=n/\∀ H2 n2,H2 id=some ob->bc Ty d op O H2 n2=some (v,H2.set id ob',n2):=by
 cases op with
 | store t a x=>
  obtain⟨id,g,idx,off,ha,hid⟩:=hc;simp only[bc] at h ⊢;rw[ha] at h ⊢
  split at h
  ·rename_i H1 hs
   cases h;unfold cq at hs
   split at hs
   ·rename_i i id1 g1 idx1 off1 new e1 e2 e3
    cases e2
    split at hs
    ·rename_i o hl
     split at hs
     ·rename_i hcond
      cases hs;obtain⟨l1,l2⟩:=cS hl;refine⟨id,o,o.write idx off new,by simp only[tgt,ha],hid,l1,rfl,rfl,fun H2 n2 h2=>?_⟩;have hl2:live H2 id g=some o:=by
       unfold live;rw[h2];simp[l2]
      simp only[cq,e1,e3,hl2,if_pos hcond]
     ·cases hs
    ·cases hs
   ·cases hs
  ·cases h
 | call c=>
  obtain⟨cal,args,ats⟩:=c;cases cal with
  | builtin b=>cases b<;>simp[cx] at hk
  | _=>simp[cx] at hk
 | _=>simp[cx] at hk
end
theorem lh {n0:Nat} {op:Op} {O:Env}:dS n0 op (loc op O)↔dS n0 op O:=by
 have h:∀ x,x ∈ op.operands->(loc op O).ev x=O.ev x:=fun x hx=>dm hx
 generalize loc op O=ρ' at h;cases op with
 | call c=>
  obtain⟨cal,args,ats⟩:=c;cases cal with
  | builtin b=>
   cases b<;>try rfl
   have ha:∀ x,x ∈ args.toList->ρ'.ev x=O.ev x:=fun x hx=>h x (by simp[Op.operands,Call.operands];simpa using hx)
   simp only[dS];exact⟨fun hc x hx=>by rw[<- ha x hx];exact hc x hx,fun hc x hx=>by rw[ha x hx];exact hc x hx⟩
  | _=>rfl
 | load t a=>simp only[dS];rw[h a (by simp[Op.operands])]
 | fieldAddr t a f=>simp only[dS];rw[h a (by simp[Op.operands])]
 | nilCheck a=>simp only[dS];rw[h a (by simp[Op.operands])]
 | indexAddr t x i=>simp only[dS];rw[h x (by simp[Op.operands])]
 | store t a x=>simp only[dS];rw[h a (by simp[Op.operands])]
 | _=>rfl
section
variable (Ty:Types) (ops:Array Oper) (n0:Nat)
def rZ (o:Oper) (s:AS) (R:AS->Prop):Prop:=
 (fm ops o s.1=some false/\R (s.1.put o.dst lU,s.2)) \/
 (fm ops o s.1=some true/\cx o.op ≠ 3/\dS n0 o.op s.1/\∃ v H',bc Ty o.dst o.op s.1 s.2.1 s.2.2=some (v,H',s.2.2)/\R (s.1.put o.dst v,H',s.2.2)) \/
 (fm ops o s.1=some true/\∃ t k i,o.op = .alloc t/\o.dst=some k/\Ty t=some i/\∀ a,n0<=a->(∀ j,s.2.1 (a,j)=none)->R (s.1.put (some k) (.ptr (a,k) 1 0 0),s.2.1.set (a,k) ⟨i.zero.length,[i.zero.map .v]⟩,max s.2.2 (a+1)))
def Bd (s:AS):Prop:=n0<=s.2.2/\∀ id o,s.2.1 id=some o->id.1<s.2.2
end
theorem set_comm {H:ax} {i j:Id} (o p:Ob) (h:i ≠ j):(H.set i o).set j p=(H.set j p).set i o:=by
 funext x
 simp only[ax.set]
 by_cases h1:x=i<;>by_cases h2:x=j<;>simp_all
section
variable {Ty:Types} {ops:Array Oper} {n0:Nat}
theorem rZ.mono {o:Oper} {s:AS} {R R':AS->Prop} (h:rZ Ty ops n0 o s R) (hR:∀ s,R s->R' s):rZ Ty ops n0 o s R':=by
 rcases h with ⟨h1,h2⟩ | ⟨h1,h2,h3,v,H',h4,h5⟩ | ⟨h1,t,k,i,h2,h3,h4,h5⟩
 ·exact .inl ⟨h1,hR _ h2⟩
 ·exact .inr (.inl ⟨h1,h2,h3,v,H',h4,hR _ h5⟩)
 ·exact .inr (.inr ⟨h1,t,k,i,h2,h3,h4,fun a ha hf=>hR _ (h5 a ha hf)⟩)
theorem ft {op:Op} {O:Env} (h3:cx op ≠ 3) (h:dS n0 op O):cx op=0\/cx op=1\/cx op=4:=by
 cases op with
 | call c=>
  obtain⟨cal,args,ats⟩:=c;cases cal with
  | builtin b=>cases b<;>first | (simp[cx];done) | (simp[dS,cx] at h)
  | _=>simp[dS,cx] at h
 | buildSlice t len ps=>simp only[dS] at h;exact .inl h
 | _=>first | (simp[cx];done) | (simp[dS,cx] at h;done) | (simp[cx] at h3)
theorem xp {s:AS} (hb:Bd n0 s) (j:Nat):s.2.1 (s.2.2,j)=none:=by
 cases h:s.2.1 (s.2.2,j) with
 | none=>rfl
 | some o=>have:=hb.2 _ o h;simp at this
theorem rZ.bd {o:Oper} {s:AS} {R:AS->Prop} (hb:Bd n0 s) (h:rZ Ty ops n0 o s R):rZ Ty ops n0 o s fun s'=>Bd n0 s'/\R s':=by
 rcases h with ⟨h1,h2⟩ | ⟨h1,h2,h3,v,H',h4,h5⟩ | ⟨h1,t,k,i,h2,h3,h4,h5⟩
 ·exact .inl ⟨h1,hb,h2⟩
 ·refine .inr (.inl ⟨h1,h2,h3,v,H',h4,⟨hb.1,?_⟩,h5⟩);rcases ft h2 h3 with hk | hk | hk
  ·obtain⟨rfl,_⟩:=gS hk h4;exact hb.2
  ·obtain⟨rfl,_⟩:=eD (H2:=s.2.1) (n2:=s.2.2) hk h3 (fun _ _=>rfl) h4;exact hb.2
  ·obtain⟨id,ob,ob',_,_,e2,rfl,_⟩:=gY hk h3 h4;intro id' o' ho';simp only at ho' ⊢
   by_cases he:id'=id
   ·rw[he];exact hb.2 _ _ e2
   ·rw[ax.aG _ _ he] at ho';exact hb.2 _ _ ho'
 ·refine .inr (.inr ⟨h1,t,k,i,h2,h3,h4,fun a ha hf=>⟨⟨?_,?_⟩,h5 a ha hf⟩⟩)
  ·have:=hb.1;simp only;omega
  ·intro id' o' ho';simp only at ho' ⊢
   by_cases he:id'=(a,k)
   ·rw[he];simp only;omega
   ·rw[ax.aG _ _ he] at ho';have:=hb.2 _ _ ho';omega
theorem rZ.swap {oi oj:Oper} (hap:oi.apart ops oj=true) (hc:ng (cx oi.op) (cx oj.op)=true) {s:AS} (hb:Bd n0 s) {R:AS->Prop} (h:rZ Ty ops n0 oi s fun si=>rZ Ty ops n0 oj si R) :
  rZ Ty ops n0 oj s fun sj=>rZ Ty ops n0 oi sj R:=by
 obtain⟨h1,h2,h3⟩:=Oper.apart_spec hap;have sj:∀ v H n,bc Ty oj.dst oj.op (s.1.put oi.dst v) H n=bc Ty oj.dst oj.op s.1 H n:=fun v H n=>by rw[<- aF,fI (dn h1),aF]
 have si:∀ v H n,bc Ty oi.dst oi.op (s.1.put oj.dst v) H n=bc Ty oi.dst oi.op s.1 H n:=fun v H n=>by rw[<- aF,fI (dn h3),aF]
 have cj:∀ v,dS n0 oj.op (s.1.put oi.dst v)↔dS n0 oj.op s.1:=fun v=>by rw[<- lh,fI (dn h1),lh]
 have ci:∀ v,dS n0 oi.op (s.1.put oj.dst v)↔dS n0 oi.op s.1:=fun v=>by rw[<- lh,fI (dn h3),lh]
 have gj:∀ v,fm ops oj (s.1.put oi.dst v)=fm ops oj s.1:=fun v=>ia h1
 have gi:∀ v,fm ops oi (s.1.put oj.dst v)=fm ops oi s.1:=fun v=>ia h3
 have pc:∀ v u,(s.1.put oi.dst v).put oj.dst u=(s.1.put oj.dst u).put oi.dst v:=fun v u=>put_comm v u h2
 obtain⟨O,H,n⟩:=s;simp only at sj si cj ci gj gi pc;rcases h with ⟨hgi,h⟩ | ⟨hgi,hki,hci,v,Hi,hsi,h⟩ | ⟨hgi,t,k,i,hop,hd,hT,h⟩
 ·
  rcases h with ⟨hgj,h⟩ | ⟨hgj,hkj,hcj,u,Hj,hsj,h⟩ | ⟨hgj,t',k',i',hop',hd',hT',h⟩
  ·simp only[gj] at hgj;exact .inl ⟨hgj,.inl ⟨by simpa only [gi] using hgi,by simpa only [pc] using h⟩⟩
  ·simp only[gj,cj,sj] at hgj hcj hsj;exact .inr (.inl ⟨hgj,hkj,hcj,u,Hj,hsj,.inl ⟨by simpa only [gi] using hgi,by simpa only [pc] using h⟩⟩)
  ·simp only[gj] at hgj;rw[hd'] at pc gi;exact .inr (.inr ⟨hgj,t',k',i',hop',hd',hT',fun a ha hf=>.inl ⟨by simpa only [gi] using hgi,by simpa only [pc] using h a ha hf⟩⟩)
 ·
  rcases h with ⟨hgj,h⟩ | ⟨hgj,hkj,hcj,u,Hj,hsj,h⟩ | ⟨hgj,t',k',i',hop',hd',hT',h⟩
  ·simp only[gj] at hgj;exact .inl ⟨hgj,.inr (.inl ⟨by simpa only [gi] using hgi,hki,by simpa only [ci] using hci,v,Hi,by simpa only [si] using hsi,by simpa only [pc] using h⟩)⟩
  ·simp only[gj,cj,sj] at hgj hcj hsj;simp only at hsi hci hgi h;have key:∃ Hj',bc Ty oj.dst oj.op O H n=some (u,Hj',n)/\bc Ty oi.dst oi.op O Hj' n=some (v,Hj,n):=by
    rcases ft hki hci with ki | ki | ki
    ·obtain⟨rfl,_,hall⟩:=gS ki hsi;exact⟨Hj,hsj,hall Hj n⟩
    ·obtain⟨rfl,_,_⟩:=eD (H2:=H) (n2:=n) ki hci (fun _ _=>rfl) hsi;rcases ft hkj hcj with kj | kj | kj
     ·obtain⟨rfl,_,hall⟩:=gS kj hsj;exact⟨_,hsj,hsi⟩
     ·obtain⟨rfl,_,_⟩:=eD (H2:=Hi) (n2:=n) kj hcj (fun _ _=>rfl) hsj;exact⟨_,hsj,hsi⟩
     ·obtain⟨id,ob,ob',_,e1,e2,rfl,_,_⟩:=gY kj hcj hsj;refine⟨_,hsj,?_⟩;exact (eD ki hci (fun id' hid=>ax.aG _ _ (by rintro rfl;omega)) hsi).2.2
    ·obtain⟨id,ob,ob',_,e1,e2,rfl,_,hall⟩:=gY ki hci hsi;rcases ft hkj hcj with kj | kj | kj
     ·obtain⟨rfl,_,hall'⟩:=gS kj hsj;exact⟨H,hall' H n,hsi⟩
     ·obtain⟨rfl,_,hst⟩:=eD (H2:=H) (n2:=n) kj hcj (fun id' hid=>(ax.aG _ _ (by rintro rfl;omega)).symm) hsj;exact⟨H,hst,hsi⟩
     ·rw[ki,kj] at hc;simp[ng] at hc
   obtain⟨Hj',k1,k2⟩:=key;exact .inr (.inl ⟨hgj,hkj,hcj,u,Hj',k1,.inr (.inl ⟨by simpa only [gi] using hgi,hki,by simpa only [ci] using hci,v,Hj,by simpa only [si] using k2,by simpa only [pc] using h⟩)⟩)
  ·
   simp only[gj] at hgj;rw[hd'] at pc gi si ci;refine .inr (.inr ⟨hgj,t',k',i',hop',hd',hT',fun a ha hf=>?_⟩);simp only at hsi hci hgi h hf;rcases ft hki hci with ki | ki | ki
   ·obtain⟨rfl,_,hall⟩:=gS ki hsi;exact .inr (.inl ⟨by simpa only [gi] using hgi,hki,by simpa only [ci] using hci,v,_,by simpa only [si] using hall _ _,by simpa only [pc] using h a ha hf⟩)
   ·obtain⟨rfl,_,_⟩:=eD (H2:=H) (n2:=n) ki hci (fun _ _=>rfl) hsi;have hst:=(eD (n2:=max n (a+1)) ki hci (fun id' hid=>ax.aG Hi ⟨i'.zero.length,[i'.zero.map .v]⟩ (i:=(a,k')) (by rintro rfl;simp only at hid;omega)) hsi).2.2;exact .inr (.inl ⟨by simpa only [gi] using hgi,hki,by simpa only [ci] using hci,v,_,by simpa only [si] using hst,by simpa only [pc] using h a ha hf⟩)
   ·obtain⟨id,ob,ob',_,e1,e2,rfl,_,hall⟩:=gY ki hci hsi;have hne:id ≠ (a,k'):=by rintro rfl;rw[hf k'] at e2;cases e2
    have hf':∀ j,(H.set id ob') (a,j)=none:=fun j=>by
     rw[ax.aG _ _ (by rintro rfl;rw[hf j] at e2;cases e2)];exact hf j
    have hst:=hall (H.set (a,k') ⟨i'.zero.length,[i'.zero.map .v]⟩) (max n (a+1)) (by rw[ax.aG _ _ hne];exact e2);have hfin:=h a ha hf';rw[set_comm _ _ hne] at hfin;exact .inr (.inl ⟨by simpa only [gi] using hgi,hki,by simpa only [ci] using hci,v,_,by simpa only [si] using hst,by simpa only [pc] using hfin⟩)
 ·
  simp only at hgi h;rw[hd] at pc gj sj cj;have hf0:∀ j,H (n,j)=none:=fun j=>xp hb j
  have hn0:n0<=n:=hb.1;have hi3:cx oi.op=3:=by rw[hop];rfl
  rcases h n hn0 hf0 with ⟨hgj,_⟩ | ⟨hgj,hkj,hcj,u,Hj,hsj,_⟩ | ⟨hgj,t',k',i',hop',hd',hT',_⟩
  ·simp only[gj] at hgj;refine .inl ⟨hgj,.inr (.inr ⟨by simpa only [gi] using hgi,t,k,i,hop,hd,hT,fun a ha hf=>?_⟩)⟩;rcases h a ha hf with ⟨_,h⟩ | ⟨hg,_⟩ | ⟨hg,_⟩
   ·simpa only [pc] using h
   ·simp only[gj,hgj] at hg;cases hg
   ·simp only[gj,hgj] at hg;cases hg
  ·simp only[gj,cj,sj] at hgj hcj hsj;have back:∀ a,n0<=a->(∀ j,H (a,j)=none)->∃ ua Ha,bc Ty oj.dst oj.op O (H.set (a,k) ⟨i.zero.length,[i.zero.map .v]⟩) (max n (a+1))=some (ua,Ha,max n (a+1))/\R ((O.put (some k) (.ptr (a,k) 1 0 0)).put oj.dst ua,Ha,max n (a+1)):=by
    intro a ha hf;rcases h a ha hf with ⟨hg,_⟩ | ⟨_,_,_,ua,Ha,hs,hR⟩ | ⟨_,t',_,_,hop',_⟩
    ·simp only[gj,hgj] at hg;cases hg
    ·simp only[sj] at hs;exact⟨ua,Ha,hs,hR⟩
    ·exact absurd (by rw[hop'];rfl) hkj
   have hout:∀ (a:Nat) (id':Id),n0<=a->id'.1<n0->(H.set (a,k) ⟨i.zero.length,[i.zero.map .v]⟩) id'=H id':=fun a id' ha hid=>ax.aG _ _ (by rintro rfl;simp only at hid;omega)
   rcases ft hkj hcj with kj | kj | kj
   ·obtain⟨rfl,_,hall⟩:=gS kj hsj;refine .inr (.inl ⟨hgj,hkj,hcj,u,H,hall H n,.inr (.inr ⟨by simpa only [gi] using hgi,t,k,i,hop,hd,hT,fun a ha hf=>?_⟩)⟩);obtain⟨ua,Ha,hs,hR⟩:=back a ha hf;rw[hall] at hs;cases hs;simpa only [pc] using hR
   ·have hst:=(eD (H2:=H) (n2:=n) kj hcj (fun id' hid=>(hout n id' hn0 hid).symm) hsj).2.2;refine .inr (.inl ⟨hgj,hkj,hcj,u,H,hst,.inr (.inr ⟨by simpa only [gi] using hgi,t,k,i,hop,hd,hT,fun a ha hf=>?_⟩)⟩);obtain⟨ua,Ha,hs,hR⟩:=back a ha hf;have hst2:=(eD (H2:=H.set (a,k) ⟨i.zero.length,[i.zero.map .v]⟩) (n2:=max n (a+1)) kj hcj (fun id' hid=>hout a id' ha hid) hst).2.2;rw[hst2] at hs;cases hs;simpa only [pc] using hR
   ·obtain⟨id,o1,o1',t1,_,e2,rfl,_,hall⟩:=gY kj hcj hsj;obtain⟨u2,H2,hs2,_⟩:=back (n+1) (by omega) (fun j=>by
     cases hx:H (n+1,j) with
     | none=>rfl
     | some o=>have:=hb.2 (n+1,j) o hx;simp only at this;omega)
    obtain⟨id2,o2,o2',t2,_,e2',_⟩:=gY kj hcj hs2;rw[t1] at t2;cases t2;have hne:id ≠ (n,k):=by
     rintro rfl;rw[ax.aG _ _ (by intro he;have:=congrArg Prod.fst he;simp only at this;omega),hf0 k] at e2';cases e2'
    rw[ax.aG _ _ hne] at e2;refine .inr (.inl ⟨hgj,hkj,hcj,u,H.set id o1',hall H n e2,.inr (.inr ⟨by simpa only [gi] using hgi,t,k,i,hop,hd,hT,fun a ha hf=>?_⟩)⟩);simp only at hf ⊢;have hf':∀ j,H (a,j)=none:=fun j=>by
     have:=hf j
     by_cases he:(a,j)=id
     ·rw[he,ax.bl] at this;cases this
     ·rwa [ax.aG _ _ he] at this
    have hne':id ≠ (a,k):=by
     rintro rfl;rw[hf' k] at e2;cases e2
    obtain⟨ua,Ha,hs,hR⟩:=back a ha hf';rw[hall _ _ (by rw[ax.aG _ _ hne'];exact e2)] at hs;cases hs;rw[set_comm _ _ hne',<- pc];exact hR
  ·simp only[gj] at hgj;rw[hd'] at pc gi;refine .inr (.inr ⟨hgj,t',k',i',hop',hd',hT',fun b hb' hfb=>.inr (.inr ⟨by simpa only [gi] using hgi,t,k,i,hop,hd,hT,fun a ha hfa=>?_⟩)⟩);simp only at hfa ⊢;have hab:a ≠ b:=by
    rintro rfl;have:=hfa k';rw[ax.bl] at this;cases this
   have hfa':∀ j,H (a,j)=none:=fun j=>by
    have:=hfa j
    rwa [ax.aG _ _ (by intro he;exact hab (congrArg Prod.fst he))] at this
   rcases h a ha hfa' with ⟨hg,_⟩ | ⟨_,hk3,_⟩ | ⟨_,t2,k2,i2,hop2,hd2,hT2,h2'⟩
   ·simp only[gj,hgj] at hg;cases hg
   ·exact absurd (by rw[hop'];rfl) hk3
   ·rw[hop'] at hop2;cases hop2;rw[hd'] at hd2;cases hd2;rw[hT'] at hT2;cases hT2;have hfin:=h2' b hb' (fun j=>by simp only;rw[ax.aG _ _ (by intro he;exact hab (congrArg Prod.fst he).symm)];exact hfb j);simp only at hfin;rw[set_comm _ _ (by intro he;exact hab (congrArg Prod.fst he)),pc] at hfin;have hm:max (max n (b+1)) (a+1)=max (max n (a+1)) (b+1):=by omega
    rw[hm];exact hfin
theorem rZ.some_ {o:Oper} {s:AS} {q:Prop} (hb:Bd n0 s) (h:rZ Ty ops n0 o s fun _=>q):q:=by
 rcases h with ⟨_,h⟩ | ⟨_,_,_,_,_,_,h⟩ | ⟨_,_,_,_,_,_,_,h⟩
 ·exact h
 ·exact h
 ·exact h s.2.2 hb.1 (fun j=>xp hb j)
variable (Ty ops n0) in
def lE (R:AS->Prop):Nat->Array Bool->AS->Prop
 | 0,listed,s=>Region.ready .any ops listed=[]/\R s
 | fuel+1,listed,s=>(Region.ready .any ops listed=[]->R s)/\∀ i ∈ Region.ready .any ops listed,∃ o,ops[i]?=some o/\rZ Ty ops n0 o s (lE R fuel (listed.setIfInBounds i true))
variable (Ty ops n0) in
def Gc (R:AS->Prop):List Oper->AS->Prop
 | [],s=>R s
 | o::l,s=>rZ Ty ops n0 o s (Gc R l)
theorem lE.first {R:AS->Prop} {i:Nat} {oi:Oper} (hi:ops[i]?=some oi) (al:List Nat) (hD:∀ j oj,ops[j]?=some oj->j ∈ al->j ≠ i->∃ e ∈ oj.after,Region.binds .any e=true/\e.on ∈ al):∀ (fuel:Nat) (listed:Array Bool) (s:AS),Bd n0 s ->
  (∀ j ∈ al,listed.getD j true=false)->(∀ j oj,ops[j]?=some oj->j ≠ i->listed.getD j true=false->j ∉ al->oi.apart ops oj=true/\ng (cx oi.op) (cx oj.op)=true) ->
  i ∈ Region.ready .any ops listed->rZ Ty ops n0 oi s (lE Ty ops n0 R fuel (listed.setIfInBounds i true))->lE Ty ops n0 R (fuel+1) listed s:=by
 intro fuel
 induction fuel with
 | zero=>
  intro listed s hb _ _ hr H;refine⟨fun h=>(by rw[h] at hr;cases hr),fun j hj=>?_⟩
  by_cases hji:j=i
  ·subst hji;exact⟨oi,hi,H⟩
  ·have:=ready_mono hj hji;have h0:Region.ready .any ops (listed.setIfInBounds i true)=[]:=rZ.some_ hb (H.mono fun s' h=>h.1);rw[h0] at this;cases this
 | succ fuel ih=>
  intro listed s hb hinv hfree hr H;refine⟨fun h=>(by rw[h] at hr;cases hr),fun j hj=>?_⟩
  by_cases hji:j=i
  ·subst hji;exact⟨oi,hi,H⟩
  ·obtain⟨hjun,oj,hoj,hall⟩:=mem_ready.1 hj;have hnot:j ∉ al:=fun hd=>by
    obtain⟨e,he,hb',hed⟩:=hD j oj hoj hd hji;have h1:=hall e he hb';have h0:=hinv e.on hed;rcases Nat.lt_or_ge e.on listed.size with h' | h'
    ·simp[h'] at h0 h1;rw[h0] at h1;cases h1
    ·simp[Array.getElem?_eq_none h'] at h1
   obtain⟨hap,hco⟩:=hfree j oj hoj hji hjun hnot;have H2:rZ Ty ops n0 oi s fun s'=>rZ Ty ops n0 oj s' (lE Ty ops n0 R fuel ((listed.setIfInBounds i true).setIfInBounds j true)):=H.mono fun s' h=>by
    obtain⟨oj',hoj',h'⟩:=h.2 j (ready_mono hj hji);rw[hoj] at hoj';cases hoj';exact h'
   refine⟨oj,hoj,(rZ.bd hb (rZ.swap hap hco hb H2)).mono fun sj ⟨hbj,hsj⟩=>ih (listed.setIfInBounds j true) sj hbj (fun k hk=>?_) (fun k ok hk hki hun hno=>?_) (ready_mono hr (Ne.symm hji)) ?_⟩
   ·have hjk:j ≠ k:=fun he=>hnot (he ▸ hk)
    rw[getD_set_ne true hjk];exact hinv k hk
   ·refine hfree k ok hk hki ?_ hno
    by_cases hjk:j=k
    ·subst hjk;exact hjun
    ·rw[getD_set_ne true hjk] at hun;exact hun
   ·rw[Array.setIfInBounds_comm _ _ hji];exact hsj
variable (ops) in
def AL (listed:Array Bool) (i:Nat):Bool:=
 match ops[i]? with
 | none=>false
 | some oi=>((behind ops i).all fun j => !(listed.getD j true) && match ops[j]? with
   | none=>true
   | some oj=>j == i || oj.after.any (fun e=>Region.binds .any e && (behind ops i).contains e.on)) &&
  (List.range ops.size).all fun j=>match ops[j]? with
  | none=>true
  | some oj=>j == i || listed.getD j true || (behind ops i).contains j || (oi.apart ops oj && ng (cx oi.op) (cx oj.op))
variable (ops) in
def E1:Nat->Nat->Array Bool->Bool
 | 0,_,listed=>(Region.ready .any ops listed).isEmpty
 | fuel+1,k,listed=>(Region.ready .any ops listed).contains k && AL ops listed k && E1 fuel (k+1) (listed.setIfInBounds k true)
variable (ops) in
def xd:Bool:=E1 ops ops.size 0 (Array.replicate ops.size false)
theorem zQ {listed:Array Bool} {i:Nat} {oi:Oper} (hi:ops[i]?=some oi) (h:AL ops listed i=true) :
  (∀ j oj,ops[j]?=some oj->j ∈ behind ops i->j ≠ i->∃ e ∈ oj.after,Region.binds .any e=true/\e.on ∈ behind ops i)/\(∀ j ∈ behind ops i,listed.getD j true=false) /\
  ∀ j oj,ops[j]?=some oj->j ≠ i->listed.getD j true=false->j ∉ behind ops i->oi.apart ops oj=true/\ng (cx oi.op) (cx oj.op)=true:=by
 unfold AL at h;simp only[hi,Bool.and_eq_true] at h;obtain⟨h1,h2⟩:=h;refine⟨fun j oj hj hd hji=>?_,fun j hd=>?_,fun j oj hj hji hun hno=>?_⟩
 ·have:=List.all_eq_true.1 h1 j hd;simp only[hj,Bool.and_eq_true,Bool.or_eq_true,beq_iff_eq] at this;rcases this.2 with h3 | h3
  ·exact absurd h3 hji
  ·obtain⟨e,he,hb⟩:=Array.any_eq_true'.1 h3;simp only[Bool.and_eq_true,List.contains_iff_mem] at hb;exact⟨e,he,hb.1,hb.2⟩
 ·have:=List.all_eq_true.1 h1 j hd;simp only[Bool.and_eq_true,Bool.not_eq_true'] at this;exact this.1
 ·have hlt:j<ops.size:=(Array.getElem?_eq_some_iff.1 hj).1;have:=List.all_eq_true.1 h2 j (List.mem_range.2 hlt);simp only[hj,hun,Bool.or_false,Bool.or_eq_true,beq_iff_eq,Bool.and_eq_true,List.contains_iff_mem] at this;rcases this with (h1 | h1) | h1
  ·exact absurd h1 hji
  ·exact absurd h1 hno
  ·exact h1
theorem lE.lex {R:AS->Prop}:∀ (l:List Oper) (k:Nat) (listed:Array Bool) (s:AS),Bd n0 s->(∀ j:Nat,l[j]?=ops[k+j]?)->E1 ops l.length k listed=true->Gc Ty ops n0 R l s->lE Ty ops n0 R l.length listed s
 | [],_,_,_,_,_,hB,h=>⟨by simpa[E1] using hB,h⟩
 | o::l,k,listed,s,hb,hl,hB,h=>by
  have h0:ops[k]?=some o:=by simpa using (hl 0).symm
  simp only[List.length_cons,E1,Bool.and_eq_true] at hB;obtain⟨⟨hr,hf⟩,hB'⟩:=hB;obtain⟨f1,f2,f3⟩:=zQ h0 hf;exact lE.first h0 (behind ops k) f1 l.length listed s hb f2 f3 (by simpa using hr)
   ((rZ.bd hb h).mono fun s' ⟨hb',h'⟩=>lE.lex l (k+1) _ s' hb' (fun j=>by have:=hl (j+1);simpa[Nat.add_assoc,Nat.add_comm 1 j] using this) hB' h')
end
section
variable {P:Program} {N:Nat} {Ty:Types} {ops:Array Oper} {n0:Nat}
theorem lE.sound (hT:aW P Ty) {R:AS->Prop} (hN:ops.toList.all (fun o=>dC N o.dst)=true) {Q:Exit->Act->World->Prop} {c0:Ctx} (hQ:∀ a c O,bD c0 c->Good c->cJ N c O a->R (O,c.H,c.n)->Q .normal a c.w) :
  ∀ (fuel:Nat) (listed:Array Bool) (O:Env) (c:Ctx) (a:Act),n0<=c.n->bD c0 c->Good c->cJ N c O a->lE Ty ops n0 R fuel listed (O,c.H,c.n)->wpAny P .any ops Q fuel listed a c.w
 | 0,_,_,_,_,_,hk,g,r,h=>⟨h.1,hQ _ _ _ hk g r h.2⟩
 | fuel+1,listed,O,c,a,hn0,hk,g,r,h=>by
  refine⟨fun h0=>hQ _ _ _ hk g r (h.1 h0),fun i hi=>?_⟩;obtain⟨o,ho,hst⟩:=h.2 i hi;have hd:dC N o.dst=true:=List.all_eq_true.1 hN o (by rw[<- Array.getElem?_toList] at ho;exact List.mem_of_getElem? ho);unfold wpOp;simp only[ho];rcases hst with ⟨hg,hrest⟩ | ⟨hg,hk3,hc,v,H',hs,hrest⟩ | ⟨hg,t,k,i',hop,hdst,hTy,hrest⟩
  ·rw[if_neg (by rw[ca r hN hg];simp)];exact lE.sound hT hN hQ fuel _ _ c _ hn0 hk g (r.put hd (.v _)) hrest
  ·rw[if_pos (ca r hN hg)];simp only at hs hrest;refine .inl (aH hT hs c a rfl rfl g r _ _ ?_);rintro v1 x c' ⟨rfl,hH,hn⟩ hrep hgood hkeep;exact lE.sound hT hN hQ fuel _ _ c' _ (by rw[hn];exact hn0) (hk.trans hkeep) hgood ((r.keeps hkeep).put hd hrep) (by rw[hH,hn];exact hrest)
  ·rw[if_pos (ca r hN hg)];have hs:bc Ty o.dst o.op O c.H c.n=some (.ptr (c.n,k) 1 0 0,c.H.set (c.n,k) ⟨i'.zero.length,[i'.zero.map .v]⟩,c.n+1):=by rw[hop,hdst];simp only[bc,hTy]
   refine .inl (aH hT hs c a rfl rfl g r _ _ ?_);rintro v1 x c' ⟨rfl,hH,hn⟩ hrep hgood hkeep;have hr:=hrest c.n hn0 (fun j=>by
    show c.H (c.n,j)=none;cases hx:c.H (c.n,j) with
    | none=>rfl
    | some ob=>have:=g.stamp _ _ hx;simp only at this;omega)
   have hm:max c.n (c.n+1)=c.n+1:=by omega
   simp only[hm] at hr;rw[<- hdst] at hr;exact lE.sound hT hN hQ fuel _ _ c' _ (by rw[hn];omega) (hk.trans hkeep) hgood ((r.keeps hkeep).put hd hrep) (by rw[hH,hn];exact hr)
end
section
variable {P:Program} {f:FuncId} {N:Nat} {k:List Item} {O:Env} {H:ax} {n:Nat} {Q:au->ax->Nat->Prop} {Ty:Types}
theorem J.xd (hT:aW P Ty) {id:Nat} {ops:List Oper} (hm:P.follows .mixedOrders=true) (hN:ops.all (fun o=>dC N o.dst)=true) (hB:xd ops.toArray=true)
  (h:Gc Ty ops.toArray n (fun s=>J P f N k s.1 s.2.1 s.2.2 Q) ops (O,H,n)):J P f N (.code (.region id ops.toArray true)::k) O H n Q:=by
 intro c a hH hn g r b cs hf hk;subst hH;subst hn;obtain⟨d1,d2⟩:=hC g;have hany:=lE.lex (Ty:=Ty) (ops:=ops.toArray) (n0:=c.n) ops 0 (Array.replicate ops.toArray.size false) (O,c.H,c.n) ⟨Nat.le_refl _,fun id o ho=>g.stamp id o ho⟩ (by simp) (by simpa[Ab.xd] using hB) h;have hw:(Code.region id ops.toArray true).wp P (fun e a' w'=>e = .normal/\∃ c' ρ',c'.w=w'/\bD c c'/\Good c'/\cJ N c' ρ' a'/\J P f N k ρ' c'.H c'.n Q) a c.w:=by
  refine wp_region_any hm ?_;have:=lE.sound (P:=P) (N:=N) (Ty:=Ty) (ops:=ops.toArray) (n0:=c.n) (c0:=c) hT (by simpa using hN) (Q:=fun e a' w'=>e = .normal/\∃ c' ρ',c'.w=w'/\bD c c'/\Good c'/\cJ N c' ρ' a'/\J P f N k ρ' c'.H c'.n Q)
   (R:=fun s=>J P f N k s.1 s.2.1 s.2.2 Q) (fun a' c' ρ' V hg' hr' hR=>⟨rfl,c',ρ',rfl,V,hg',hr',hR⟩) ops.length (Array.replicate ops.toArray.size false) O { c with w:={ c.w with drawn:=c.w.drawn+1 } } a (Nat.le_refl _) d1 d2 (r.keeps d1) hany
  simpa using this
 obtain⟨e,a',w',⟨rfl,c',ρ',rfl,V,hg',hr',hR⟩,harr⟩:=hw b k cs;obtain⟨x,v,c'',fr,q,hr,hg,hke,hst,rest⟩:=hR c' a' rfl rfl hg' hr' b cs hf hk;exact⟨x,v,c'',fr,q,hr,hg,V.trans hke,Steps.trans harr hst,rest⟩
end
def Cl (Ty:Types) (d:Option Nat):Op->Option (Nat × Ob)
 | .alloc t=>match d,Ty t with
  | some k,some i=>some (k,⟨i.zero.length,[i.zero.map .v]⟩)
  | _,_=>none
 | _=>none
section
variable (P:Program) (f:FuncId) (N:Nat) (k:List Item) (Q:au->ax->Nat->Prop) (Ty:Types) (ops:Array Oper) (n0:Nat)
def iM:List Oper->Env->ax->Nat->Prop
 | [],O,H,n=>J P f N k O H n Q
 | o::l,O,H,n=>
  match fm ops o O with
  | some false=>iM l (O.put o.dst lU) H n
  | some true=>match Cl Ty o.dst o.op with
   | some (j,ob)=>∀ a,n0<=a->(∀ q,H (a,q)=none)->iM l (O.put (some j) (.ptr (a,j) 1 0 0)) (H.set (a,j) ob) (max n (a+1))
   | none=>match bc Ty o.dst o.op O H n with
    | some (v,H',_)=>dS n0 o.op O/\iM l (O.put o.dst v) H' n
    | none=>False
  | none=>False
end
section
variable {P:Program} {f:FuncId} {N:Nat} {k:List Item} {O:Env} {H:ax} {n:Nat} {Q:au->ax->Nat->Prop} {Ty:Types} {ops:Array Oper} {n0:Nat}
theorem Bc {d:Option Nat} {op:Op} {v:au} {H':ax} {n':Nat} (h:Cl Ty d op=none) (hs:bc Ty d op O H n=some (v,H',n')):cx op ≠ 3:=by
 cases op with
 | alloc t=>
  simp only[bc] at hs
  split at hs
  ·rename_i k' i hi
   simp only[Cl,hi] at h;cases h
  ·cases hs
 | call c=>
  obtain⟨cal,args,ats⟩:=c;cases cal with
  | builtin b=>cases b<;>simp[cx]
  | _=>simp[cx]
 | buildSlice t len ps=>
  unfold cx;simp only
  by_cases h0:len=0<;>simp[h0]
 | _=>simp[cx]
theorem im:∀ (l:List Oper) (O:Env) (H:ax) (n:Nat),iM P f N k Q Ty ops n0 l O H n->Gc Ty ops n0 (fun s=>J P f N k s.1 s.2.1 s.2.2 Q) l (O,H,n)
 | [],_,_,_,h=>h
 | o::l,O,H,n,h=>by
  rw[iM] at h
  split at h
  ·rename_i hg
   exact .inl ⟨hg,im l _ _ _ h⟩
  ·rename_i hg
   split at h
   ·rename_i j ob hnew
    unfold Cl at hnew
    split at hnew
    ·rename_i t hop
     split at hnew
     ·rename_i k' i hdst hTy
      cases hnew;exact .inr (.inr ⟨hg,t,_,_,hop,hdst,hTy,fun a ha hf=>im l _ _ _ (h a ha hf)⟩)
     ·cases hnew
    ·cases hnew
   ·rename_i hnew
    split at h
    ·rename_i v H' n' hs
     have hk3:=Bc hnew hs;obtain⟨hc,h⟩:=h;have hn:n'=n:=by
      rcases ft hk3 hc with hk | hk | hk
      ·exact (gS hk hs).2.1
      ·exact (eD (H2:=H) (n2:=n) hk hc (fun _ _=>rfl) hs).2.1
      ·obtain⟨_,_,_,_,_,_,_,e,_⟩:=gY hk hc hs;exact e
     subst hn;exact .inr (.inl ⟨hg,hk3,hc,v,H',hs,im l _ _ _ h⟩)
    ·exact h.elim
  ·exact h.elim
@[simp] theorem evalN_nil : iM P f N k Q Ty ops n0 [] O H n = J P f N k O H n Q := by rw [iM]
@[simp] theorem evalN_cons {o : Oper} {l : List Oper} : iM P f N k Q Ty ops n0 (o :: l) O H n = (match fm ops o O with
  | some false=>iM P f N k Q Ty ops n0 l (O.put o.dst lU) H n
  | some true=>match Cl Ty o.dst o.op with
   | some (j,ob)=>∀ a,n0<=a->(∀ q,H (a,q)=none)->iM P f N k Q Ty ops n0 l (O.put (some j) (.ptr (a,j) 1 0 0)) (H.set (a,j) ob) (max n (a+1))
   | none=>match bc Ty o.dst o.op O H n with
    | some (v,H',_)=>dS n0 o.op O/\iM P f N k Q Ty ops n0 l (O.put o.dst v) H' n
    | none=>False
  | none=>False):=by rw[iM]
theorem J.seqN (hT:aW P Ty) {id:Nat} {ops:List Oper} {y:Code} (hm:P.follows .mixedOrders=true) (hN:ops.all (fun o=>dC N o.dst)=true) (hB:Ab.xd ops.toArray=true)
  (h:∀ k':List Item,(∀ O H n,J P f N (.code y::k) O H n Q->J P f N k' O H n Q)->iM P f N k' Q Ty ops.toArray n ops O H n):J P f N (.code (.seq (.region id ops.toArray true) y)::k) O H n Q:=
 J.seq (J.xd hT hm hN hB (im ops _ _ _ (h (.code y::k) fun _ _ _ h=>h)))
end
attribute [simp] fm dS B0 Cl cx
end Go.Ab
namespace Go.Ab.Vg
open Go.Proofs
set_option maxRecDepth 100000
attribute [local simp] az.cells aQ.cells av gZ bg bC pA
theorem e153:a8 prog 153:=a8.of func153 (by kernel_rfl) rfl
theorem yh (a:List Int) (b:List Int) (Z:Bool->Prop) (h:nA a b Z):aC prog 153 [.list false (a.map av),.list false (b.map av)] (fun r=>∃ y:Bool,Z y/\r=bool y):=by
 unfold nA at h;refine aC.of func153 rfl ntmps153 (by simp) fun Q hQ=>?_
 refine J.cut (fun O H n=>(O 0 = .list false (a.map av)/\O 1 = .list false (b.map av))) (by simp) ?_;rintro O H U E;refine zE fun k' V=>?_
 simp[E];apply V;refine zS fun k' V=>?_
 simp[E];apply V;apply J.block;refine J.aO h (fun (sJ:Int) O H n=>match sJ with | i4=>(O 0 = .list false (a.map av)/\O 1 = .list false (b.map av)/\O 5=int i4)) (by simp[E]) ?_;clear E;rintro i4 O H n5 K h E IH6;refine zS fun k' V=>?_
 obtain⟨J8,hJ9,q⟩:=h;have o:∀ (sJ:Bool) (O:Env) (H:ax) (n:Nat),J8 sJ->(match sJ with | g=>(O 0 = .list false (a.map av)/\O 1 = .list false (b.map av)/\O 5=int i4/\O 15=bool g))->J prog 153 41 k' O H n Q:=by
  rintro g O H a0 h E;replace h:=q _ h;apply V;refine J.ite (b:=g) (by simp[E]) (fun c=>?_) (fun c=>?_)
  ·replace h:=h.1 c;apply zK;apply J.block;refine J.cO ay aA bq (by decide) (by kernel_rfl) fun k' V=>?_
   obtain⟨t,h⟩:=h;obtain⟨a1,i,h⟩:=aK h;have f16:=fun H=>aP (H:=H) (fr:=false) (f:=av) (k:=.i64) aS (fun _=>rfl) t i
   obtain⟨u,h⟩:=h;obtain⟨a2,j,h⟩:=aK h;have f19:=fun H=>aP (H:=H) (fr:=false) (f:=av) (k:=.i64) aS (fun _=>rfl) u j
   obtain⟨A,B,h⟩:=aK h;have f21:=cg (k:=.i64) B;simp[E,f16,f19,f21,c,-ar,-aw];apply V;refine J.ite (b:=A) (by simp[E,c]) (fun d=>?_) (fun d=>?_)
   ·replace h:=h.1 d;refine J.cO ay aA bq (by decide) (by kernel_rfl) fun k' V=>?_
    obtain⟨C,h⟩:=h;obtain⟨a3,D,h⟩:=aK h;have F:=i.trans D.symm;subst F;have f25:=fun H=>aP (H:=H) (fr:=false) (f:=av) (k:=.i64) aS (fun _=>rfl) C i
    obtain⟨G,h⟩:=h;obtain⟨a4,L,h⟩:=aK h;have N:=j.trans L.symm;subst N;have f29:=fun H=>aP (H:=H) (fr:=false) (f:=av) (k:=.i64) aS (fun _=>rfl) G j
    obtain⟨l,R,h⟩:=aK h;have f31:=aY (k:=.i64) R;simp[E,f25,f29,f31,c,d,-ar,-aw];apply V;refine J.cut (fun O H n=>O 4=bool l) (by simp[E,f25,f29,f31,c,d,-ar,-aw]) ?_;clear E;rintro O H n32 E;exact J.bj (v:=bool l) func153 results153 (by simp[E]) (hQ _ _ _ _ (.of (.v _)) ⟨l,h,rfl⟩)
   replace h:=h.2 d;apply J.skip;refine zI fun k' V=>?_
   obtain⟨T,h⟩:=h;obtain⟨W,X,h⟩:=aK h;have f35:=aU T X;simp[E,f35,c,d,-aw];apply V;refine IH6 (W) _ _ _ h (by simp[E,c,d])
  replace h:=h.2 c;refine J.exit rfl ?_;refine zE fun k' V=>?_
  obtain⟨a5,Y,h⟩:=aK h;have f37:=fun H=>aI (H:=H) (fr:=false) (f:=av) aS Y
  obtain⟨a9,ab,h⟩:=aK h;have f39:=fun H=>aI (H:=H) (fr:=false) (f:=av) aS ab
  obtain⟨p,ac,h⟩:=aK h;have f41:=aY (k:=.i64) ac;simp[E,f37,f39,f41,c,-aw,-aL];apply V;exact J.bj (v:=bool p) func153 results153 (by simp[E,c]) (hQ _ _ _ _ (.of (.v _)) ⟨p,h,rfl⟩)
 replace h:=hJ9;obtain⟨bd,ad,h⟩:=aK h;have f43:=fun H=>aI (H:=H) (fr:=false) (f:=av) aS ad
 obtain⟨af,am,h⟩:=aK h;have f45:=aY (k:=.i64) am;rcases Bool.eq_false_or_eq_true af with e | e
 ·replace h:=h.1 e;obtain⟨be,ao,h⟩:=aK h;have f47:=fun H=>aI (H:=H) (fr:=false) (f:=av) aS ao
  obtain⟨ap,aX,h⟩:=aK h;have f49:=aY (k:=.i64) aX;simp[E,f43,f45,f47,f49,e,-aw,-aL];exact o (ap) _ _ _ h (by simp[E,f43,f45,f47,f49,e,-aw,-aL])
 replace h:=h.2 e;simp[E,f43,f45,e,-aw,-aL];exact o (false) _ _ _ h (by simp[E,f43,f45,e,-aw,-aL])
theorem xz (a:List Int) (b:List Int) (hp:lB a b):aC prog 153 [.list false (a.map av),.list false (b.map av)] (fun r=>r=bool (pw a b)):=(yh a b _ (Eu a b hp)).mono (by rintro _ ⟨_,rfl,rfl⟩;rfl)
theorem e82:a8 prog 82:=a8.of func82 (by kernel_rfl) rfl
theorem x6 (a:List Int) (b:List Int) (Z:Bool->Prop) (h:m7 a b Z):aC prog 82 [.list false (a.map av),.list false (b.map av)] (fun r=>∃ y:Bool,Z y/\r=bool y):=by
 unfold m7 at h;refine aC.of func82 rfl ntmps82 (by simp) fun Q hQ=>?_
 refine J.cut (fun O H n=>(O 0 = .list false (a.map av)/\O 1 = .list false (b.map av))) (by simp) ?_;rintro O H U E;refine zE fun _ V=>?_
 simp[E];apply V;refine zS fun _ V=>?_
 obtain⟨bh,elen2,h⟩:=aK h;have f3:=fun H=>aI (H:=H) (fr:=false) (f:=av) aS elen2
 obtain⟨cM,elen4,h⟩:=aK h;have f5:=fun H=>aI (H:=H) (fr:=false) (f:=av) aS elen4
 obtain⟨c6,ec6,h⟩:=aK h;have f7:=cg (k:=.i64) ec6;simp[E,f3,f5,f7,-aw,-aL];apply V;refine J.ite (b:=c6) (by simp[E]) (fun dc6=>?_) (fun dc6=>?_)
 ·replace h:=h.1 dc6;refine zE fun _ V=>?_
  simp[E,dc6];apply V;exact J.bj (v:=bool false) func82 results82 (by simp[E,dc6]) (hQ _ _ _ _ (.of (.v _)) ⟨false,h,rfl⟩)
 replace h:=h.2 dc6;apply J.skip;refine zS fun _ V=>?_
 simp[E,dc6];apply V;apply J.block;refine J.aO h (fun (sJ:Int) O H n=>match sJ with | i10=>(O 0 = .list false (a.map av)/\O 1 = .list false (b.map av)/\O 5=int i10)) (by simp[E,dc6]) ?_;clear E;rintro i10 O H D K h E g;refine zS fun _ V=>?_
 obtain⟨F,i,h⟩:=aK h;have f15:=fun H=>aI (H:=H) (fr:=false) (f:=av) aS i
 obtain⟨j,l,h⟩:=aK h;have f17:=aY (k:=.i64) l;simp[E,f15,f17,-aw,-aL];apply V;refine J.ite (b:=j) (by simp[E]) (fun c=>?_) (fun c=>?_)
 ·replace h:=h.1 c;apply zK;apply J.block;refine J.cO ay aA bq (by decide) (by kernel_rfl) fun _ V=>?_
  obtain⟨o,h⟩:=h;obtain⟨G,p,h⟩:=aK h;have f20:=fun H=>aP (H:=H) (fr:=false) (f:=av) (k:=.i64) aS (fun _=>rfl) o p
  obtain⟨q,h⟩:=h;obtain⟨L,t,h⟩:=aK h;have f23:=fun H=>aP (H:=H) (fr:=false) (f:=av) (k:=.i64) aS (fun _=>rfl) q t
  obtain⟨u,A,h⟩:=aK h;have f25:=cg (k:=.i64) A;simp[E,f20,f23,f25,c,-ar,-aw];apply V;refine J.ite (b:=u) (by simp[E,c]) (fun d=>?_) (fun d=>?_)
  ·replace h:=h.1 d;refine zE fun _ V=>?_
   simp[E,c,d];apply V;exact J.bj (v:=bool false) func82 results82 (by simp[E,c,d]) (hQ _ _ _ _ (.of (.v _)) ⟨false,h,rfl⟩)
  replace h:=h.2 d;apply J.skip;refine zI fun _ V=>?_
  obtain⟨B,h⟩:=h;obtain⟨e,C,h⟩:=aK h;have f28:=aU B C;simp[E,f28,c,d,-aw];apply V;refine J.cut (fun O H n=>(O 0 = .list false (a.map av)/\O 1 = .list false (b.map av)/\O 5=int e)) (by simp[E,f28,c,d,-aw]) ?_;clear E;rintro O H n29 E;refine g (e) _ _ _ h (by simp[E])
 replace h:=h.2 c;refine J.exit rfl ?_;refine zE fun _ V=>?_
 simp[E,c];apply V;exact J.bj (v:=bool true) func82 results82 (by simp[E,c]) (hQ _ _ _ _ (.of (.v _)) ⟨true,h,rfl⟩)
theorem nB (a:List Int) (b:List Int) (hp:eV a b):aC prog 82 [.list false (a.map av),.list false (b.map av)] (fun r=>r=bool (iq a b)):=(x6 a b _ (EF a b hp)).mono (by rintro _ ⟨_,rfl,rfl⟩;rfl)
theorem e165:a8 prog 165:=a8.of func165 (by kernel_rfl) rfl
theorem xI (b:I) (x:Int) (y:Int) (Z:Bool->Prop) (h:m8 b x y Z):aC prog 165 [.agg (bC false b),int x,int y] (fun r=>∃ y:Bool,Z y/\r=bool y):=by
 unfold m8 at h;refine aC.of func165 rfl ntmps165 (by simp) fun Q hQ=>?_
 refine J.cut (fun O H n=>(O 0 = .agg (bC false b)/\O 1=int x/\O 2=int y)) (by first | (simp ;done) | omega | (simp;omega)) ?_;rintro O H U E;refine zE fun k' V=>?_
 simp[E];apply V;refine J.cut (fun O H n=>(O 1=int x/\O 2=int y/\O 3=pA U 3)/\H (U,3)=some ⟨6,[bC false b]⟩/\U<n) (by refine⟨?_,?_,?_⟩<;>first | (simp[E];done) | omega | (simp;omega)) ?_;clear E;rintro O H n3 ⟨E,a,g3_1⟩;refine J.seqN ay bq (by decide) (by kernel_rfl) fun k' V=>?_
 obtain⟨hb4,h⟩:=h;obtain⟨x5,ex5,h⟩:=aK h;have f6:=fun H=>aP (H:=H) (fr:=false) (f:=(az.cells false)) (k:=.i64) b9 (fun _=>rfl) hb4 ex5
 obtain⟨hb7,h⟩:=h;obtain⟨x8,ex8,h⟩:=aK h;have f9:=fun H=>aP (H:=H) (fr:=false) (f:=(az.cells false)) (k:=.i64) b9 (fun _=>rfl) hb7 ex8
 simp[E,a,g3_1,f6,f9,-ar];intro t ha10 qa10;clear qa10;intro u ha11 qa11;clear qa11;refine⟨ha10,ha11,V _ _ _ ?_⟩;refine J.cut (fun O H n=>(O 1=int x/\O 2=int y/\O 3=pA U 3/\O 7 = .ptr (t,7) 1 0 0/\O 8 = .ptr (u,8) 1 0 0)/\H (U,3)=some ⟨6,[bC false b]⟩/\H (t,7)=some ⟨3,[[int x5.control,int x5.parent,.list false (x5.links.map av)]]⟩/\H (u,8)=some ⟨3,[[int x8.control,int x8.parent,.list false (x8.links.map av)]]⟩/\U<n/\t<n/\u<n) (by refine⟨?_,?_,?_,?_,?_,?_,?_⟩<;>first | (simp[E,a,g3_1,f6,f9,-ar];done) | omega | (simp;omega)) ?_;clear E a g3_1;rintro O H b0 ⟨E,a,l,o,g3_1,g7_9,g8_10⟩;refine zS fun k' V=>?_
 obtain⟨C,D,F⟩:=h;have A:∀ (sJ:Bool) (O:Env) (H:ax) (n:Nat),C sJ->(match sJ with | B=>(O 1=int x/\O 2=int y/\O 3=pA U 3/\O 38=bool B)/\H (U,3)=some ⟨6,[bC false b]⟩/\U<n)->J prog 165 65 k' O H n Q:=by
  rintro B O H n18 h ⟨E,a,g3_1⟩;replace h:=F _ h;apply V;refine J.ite (b:=B) (by simp[E,a,g3_1]) (fun c=>?_) (fun c=>?_)
  ·replace h:=h.1 c;refine zE fun k' V=>?_
   simp[E,a,g3_1,c];apply V;exact J.bj (v:=bool false) func165 results165 (by simp[E,a,g3_1,c]) (hQ _ _ _ _ (.of (.v _)) ⟨false,h,rfl⟩)
  replace h:=h.2 c;apply J.skip;refine zE fun k' V=>?_
  obtain⟨G,K,L⟩:=h;have p:∀ (sJ:Bool) (O:Env) (H:ax) (n:Nat),G sJ->(match sJ with | q=>O 6=bool q)->J prog 165 65 k' O H n Q:=by
   rintro q O H n24 h E;replace h:=L _ h;apply V;exact J.bj (v:=bool q) func165 results165 (by simp[E]) (hQ _ _ _ _ (.of (.v _)) ⟨q,h,rfl⟩)
  replace h:=K;obtain⟨N,h⟩:=h;obtain⟨b1,R,h⟩:=aK h;simp[E,a,g3_1,c];refine zA ((tx b x N).pure) e179 (.cons (cN false b) (.cons (.v _ _ _) .nil)) (by simp[E,a,g3_1,c]) ?_;rintro _ rfl;rw[<- R];obtain⟨b2,T,h⟩:=aK h;have f28:=fun H=>aI (H:=H) (fr:=true) (f:=av) aS T
  obtain⟨W,X,h⟩:=aK h;have f30:=eg (k:=.i64) X;rcases Bool.eq_false_or_eq_true W with d | d
  ·replace h:=h.1 d;obtain⟨Y,h⟩:=h;obtain⟨b3,ab,h⟩:=aK h;simp[E,a,g3_1,f28,f30,c,d,-aw,-aL];refine zA ((tx b y Y).pure) e179 (.cons (cN false b) (.cons (.v _ _ _) .nil)) (by simp[E,a,g3_1,f28,f30,c,d,-aw,-aL]) ?_;rintro _ rfl;rw[<- ab];obtain⟨b7,ac,h⟩:=aK h;have f34:=fun H=>aI (H:=H) (fr:=true) (f:=av) aS ac
   obtain⟨ad,af,h⟩:=aK h;have f36:=eg (k:=.i64) af;rcases Bool.eq_false_or_eq_true ad with e | e
   ·replace h:=h.1 e;obtain⟨am,h⟩:=h;obtain⟨r38,ao,h⟩:=aK h;simp[E,a,g3_1,f28,f30,f34,f36,c,d,e,-aw,-aL];refine zA ((ql b x am).pure) e180 (.cons (cN false b) (.cons (.v _ _ _) .nil)) (by simp[E,a,g3_1,f28,f30,f34,f36,c,d,e,-aw,-aL]) ?_;rintro _ rfl;rw[<- ao];obtain⟨b8,ap,h⟩:=aK h;have f40:=fun H=>aI (H:=H) (fr:=true) (f:=av) aS ap
    obtain⟨aX,a0,h⟩:=aK h;have f42:=eg (k:=.i64) a0;rcases Bool.eq_false_or_eq_true aX with i | i
    ·replace h:=h.1 i;obtain⟨a1,h⟩:=h;obtain⟨cc,a2,h⟩:=aK h;simp[E,a,g3_1,f28,f30,f34,f36,f40,f42,c,d,e,i,-aw,-aL];refine zA ((ql b y a1).pure) e180 (.cons (cN false b) (.cons (.v _ _ _) .nil)) (by simp[E,a,g3_1,f28,f30,f34,f36,f40,f42,c,d,e,i,-aw,-aL]) ?_;rintro _ rfl;rw[<- a2];obtain⟨ce,a3,h⟩:=aK h;have f46:=fun H=>aI (H:=H) (fr:=true) (f:=av) aS a3
     obtain⟨a4,a5,h⟩:=aK h;have f48:=eg (k:=.i64) a5;simp[E,a,g3_1,f28,f30,f34,f36,f40,f42,f46,f48,c,d,e,i,-aw,-aL];exact p (a4) _ _ _ h (by first | (simp[E,a,g3_1,f28,f30,f34,f36,f40,f42,f46,f48,c,d,e,i,-aw,-aL];done) | omega | (simp;omega))
    replace h:=h.2 i;simp[E,a,g3_1,f28,f30,f34,f36,f40,f42,c,d,e,i,-aw,-aL];exact p (false) _ _ _ h (by first | (simp[E,a,g3_1,f28,f30,f34,f36,f40,f42,c,d,e,i,-aw,-aL];done) | omega | (simp;omega))
   replace h:=h.2 e;simp[E,a,g3_1,f28,f30,f34,f36,c,d,e,-aw,-aL];exact p (false) _ _ _ h (by first | (simp[E,a,g3_1,f28,f30,f34,f36,c,d,e,-aw,-aL];done) | omega | (simp;omega))
  replace h:=h.2 d;simp[E,a,g3_1,f28,f30,c,d,-aw,-aL];exact p (false) _ _ _ h (by first | (simp[E,a,g3_1,f28,f30,c,d,-aw,-aL];done) | omega | (simp;omega))
 replace h:=D;obtain⟨a9,bd,h⟩:=aK h;have f50:=cg (k:=.i64) bd;rcases Bool.eq_false_or_eq_true a9 with g | g
 ·replace h:=h.1 g;simp[E,a,l,o,g3_1,g7_9,g8_10,f50,g,-aw];exact A (true) _ _ _ h (by refine⟨?_,?_,?_⟩<;>first | (simp[E,a,l,o,g3_1,g7_9,g8_10,f50,g,-aw];done) | omega | (simp;omega))
 replace h:=h.2 g;obtain⟨be,bi,h⟩:=aK h;have f52:=cg (k:=.i64) bi;rcases Bool.eq_false_or_eq_true be with j | j
 ·replace h:=h.1 j;simp[E,a,l,o,g3_1,g7_9,g8_10,f50,f52,g,j,-aw];exact A (true) _ _ _ h (by refine⟨?_,?_,?_⟩<;>first | (simp[E,a,l,o,g3_1,g7_9,g8_10,f50,f52,g,j,-aw];done) | omega | (simp;omega))
 replace h:=h.2 j;obtain⟨br,h⟩:=h;obtain⟨bs,bv,h⟩:=aK h;simp[E,a,l,o,g3_1,g7_9,g8_10,f50,f52,g,j,-aw];refine zA (nB x5.links x8.links br) e82 (.cons (cU false x5.links) (.cons (cU false x8.links) .nil)) (by simp[E,a,l,o,g3_1,g7_9,g8_10,f50,f52,g,j,-aw]) ?_;rintro _ rfl;rw[<- bv];simp[E,a,l,o,g3_1,g7_9,g8_10,f50,f52,g,j,-aw];exact A ((!bs)) _ _ _ h (by refine⟨?_,?_,?_⟩<;>first | (simp[E,a,l,o,g3_1,g7_9,g8_10,f50,f52,g,j,-aw];done) | omega | (simp;omega))
theorem EH (b:I) (x:Int) (y:Int) (hp:oq b x y):aC prog 165 [.agg (bC false b),int x,int y] (fun r=>r=bool (w3 b x y)):=(xI b x y _ (FD b x y hp)).mono (by rintro _ ⟨_,rfl,rfl⟩;rfl)
theorem e152:a8 prog 152:=a8.of func152 (by kernel_rfl) rfl
theorem zn (b:I) (places:List Int) (Z:(List Int)->Prop) (h:nk b places Z):bG prog 152 [.agg (bC false b),.list false (places.map av)] (.s [.c]) (fun r=>∃ y:List Int,Z y/\r = .list true (y.map av)):=by
 unfold nk at h;have M:Sep bw 0 [] []:=Sep.nil (by simp);refine bG.of func152 rfl ntmps152 (by simp) fun Q hQ=>?_
 refine J.cut (fun O H n=>(O 0 = .agg (bC false b)/\O 1 = .list false (places.map av))/\Sep H n [] []) (by refine⟨by simp ,M⟩) ?_;rintro O H U ⟨E,M⟩;refine zE fun k' V=>?_
 simp[E];apply V;refine J.cut (fun O H n=>((O 1 = .list false (places.map av)/\O 2=pA U 2)/\H (U,2)=some ⟨6,[bC false b]⟩)/\Sep H n [] [(U,2)]) (by refine⟨by simp[E],M.var⟩) ?_;clear E;rintro O H n3 ⟨⟨E,a⟩,M⟩;refine zE fun k' V=>?_
 simp[E,a];apply V;refine J.cut (fun O H n=>∃ (v5:au),((O 1 = .list false (places.map av)/\O 2=pA U 2/\O 5=v5)/\H (U,2)=some ⟨6,[bC false b]⟩)/\Sep H n [oI v5 ([]:List Int)] [(U,2)]) (by refine⟨.arr (n3,9) 0 0 0,by simp[E,a],(Sep.addEmpty (l:=[.c]) M)⟩) ?_;clear E a;rintro O H n6 ⟨v5,⟨E,a⟩,M⟩;refine zS fun k' V=>?_
 simp[E,a];apply V;apply J.block;refine J.aO h (fun (sJ:Int × (List Int)) O H n=>match sJ with | (i14,e)=>∃ (o:au),((O 1 = .list false (places.map av)/\O 2=pA U 2/\O 5=o/\O 6=int i14)/\H (U,2)=some ⟨6,[bC false b]⟩)/\Sep H n [oI o e] [(U,2)]) (by refine⟨v5,by simp[E,a],M⟩) ?_;clear E a;rintro⟨i14,e⟩ O H n17 K h ⟨o,⟨E,a⟩,M⟩ R;refine zS fun k' V=>?_
 obtain⟨dc,ab,h⟩:=aK h;have f21:=fun H=>aI (H:=H) (fr:=false) (f:=(az.cells false)) b9 ab
 obtain⟨ac,ad,h⟩:=aK h;have f23:=aY (k:=.i64) ad;simp[E,a,f21,f23,-aw,-aL];apply V;refine J.ite (b:=ac) (by simp[E,a]) (fun i=>?_) (fun i=>?_)
 ·replace h:=h.1 i;apply zK;apply J.block;refine zE fun k' V=>?_
  obtain⟨af,am,ao⟩:=h;have D:∀ (sJ:Bool) (O:Env) (H:ax) (n:Nat),af sJ->(match sJ with | T=>∃ (v28:au),((O 1 = .list false (places.map av)/\O 2=pA U 2/\O 5=v28/\O 6=int i14/\O 7=bool T)/\H (U,2)=some ⟨6,[bC false b]⟩)/\Sep H n [oI v28 e] [(U,2)])->J prog 152 66 k' O H n Q:=by
   rintro T O H n30 h ⟨v28,⟨E,a⟩,M⟩;replace h:=ao _ h;apply V;refine zS fun k' V=>?_
   simp[E,a];apply V;apply J.block;refine J.aO h (fun (sJ:Bool × Int) O H n=>match sJ with | (free35,k36)=>∃ (v37:au),((O 1 = .list false (places.map av)/\O 2=pA U 2/\O 5=v37/\O 6=int i14/\O 7=bool free35/\O 8=int k36)/\H (U,2)=some ⟨6,[bC false b]⟩)/\Sep H n [oI v37 e] [(U,2)]) (by refine⟨v28,by simp[E,a],M⟩) ?_;clear E a;rintro⟨free35,k36⟩ O H n38 K h ⟨v37,⟨E,a⟩,M⟩ aX;refine zS fun k' V=>?_
   obtain⟨a0,a1,a2⟩:=h;have W:∀ (sJ:Bool) (O:Env) (H:ax) (n:Nat),a0 sJ->(match sJ with | F=>∃ (B:au),((O 1 = .list false (places.map av)/\O 2=pA U 2/\O 5=B/\O 6=int i14/\O 7=bool free35/\O 8=int k36/\O 49=bool F)/\H (U,2)=some ⟨6,[bC false b]⟩)/\Sep H n [oI B e] [(U,2)])->J prog 152 66 k' O H n Q:=by
    rintro F O H dd h ⟨B,⟨E,a⟩,M⟩;replace h:=a2 _ h;apply V;refine J.ite (b:=F) (by simp[E,a]) (fun d=>?_) (fun d=>?_)
    ·replace h:=h.1 d;apply zK;apply J.block;refine J.gf ay aA bq (by decide) (by kernel_rfl) fun k' V=>?_
     obtain⟨G,h⟩:=h;obtain⟨X,hv,A,dl,u⟩:=Sep.eA M (by simp) G;subst hv;simp at u;obtain⟨a3,a4,h⟩:=aK h;have f54:=fun H (hm:H X=some ⟨1,e.map av⟩)=>cH (H:=H) (k:=.i64) (off:=0) (len:=e.length) (g:=e.length) aS hm (by simp) rfl G
     have f55:=cu (q:=k36.toNat) G a4 rfl;obtain⟨a5,h⟩:=h;obtain⟨a9,bd,h⟩:=aK h;simp[E,a,A,u,f54,f55,d,-ar];refine bf.bN ay aA (EH b a3 i14 a5) e165 (.cons (cN false b) (.cons (.v _ _ _) (.cons (.v _ _ _) .nil))) (by decide) rfl (by simp[E,a,A,u,f54,f55,d,-ar]) ?_;rw[<- bd];simp[E,a,A,u,f54,f55,d,-ar];apply V;refine zI fun k' V=>?_
     obtain⟨be,h⟩:=h;obtain⟨v59,bi,h⟩:=aK h;have f60:=aU be bi;simp[E,a,A,u,f60,d,-aw];apply V;refine aX ((!a9),v59) _ _ _ h (by refine⟨.arr X e.length 0 e.length,by simp[E,a,A,u,d],M⟩)
    replace h:=h.2 d;refine J.exit rfl ?_;refine zE fun k' V=>?_
    simp[E,a,d];apply V;refine J.ite (b:=free35) (by simp[E,a,d]) (fun dfree35=>?_) (fun dfree35=>?_)
    ·replace h:=h.1 dfree35;refine zF fun k' V=>?_
     obtain⟨br,h⟩:=h;obtain⟨L,bs,h⟩:=aK h;simp[E,a,d,dfree35,-bo];refine cQ [] [] [[int i14]] [av i14] M aS (by simp) (by simp) (by simp) (by simp[-aM,bu]) (cf (bb.v _ bb.nil)) (by simp) (by simpa using br) ?_;rintro Y bv b0 M b1 dr;replace M:Sep bv b0 [oI Y L] [(U,2)]:=Sep.ap bs M;have a:=(b1 _ (by simp)).trans a;simp[E,a,d,dfree35];apply V;refine J.cut (fun O H n=>∃ (C:au),((O 1 = .list false (places.map av)/\O 2=pA U 2/\O 5=C/\O 6=int i14)/\H (U,2)=some ⟨6,[bC false b]⟩)/\Sep H n [oI C L] [(U,2)]) (by refine⟨Y,by simp[E,a,d,dfree35],M⟩) ?_;clear E a;rintro O H ds ⟨C,⟨E,a⟩,M⟩;refine zI fun k' V=>?_
     obtain⟨b2,h⟩:=h;obtain⟨v72,b3,h⟩:=aK h;have f73:=aU b2 b3;simp[E,a,f73,-aw];apply V;refine R (v72,L) _ _ _ h (by refine⟨C,by simp[E,a],M⟩)
    replace h:=h.2 dfree35;apply J.skip;refine zI fun k' V=>?_
    obtain⟨b7,h⟩:=h;obtain⟨v75,b8,h⟩:=aK h;have f76:=aU b7 b8;simp[E,a,f76,d,dfree35,-aw];apply V;refine R (v75,e) _ _ _ h (by refine⟨B,by simp[E,a,d,dfree35],M⟩)
   replace h:=a1;obtain⟨cc,ce,h⟩:=aK h;have f78:=pU (Sep.len (m:=cc) M aS (by rw[ce,List.length_map]));obtain⟨ch,ci,h⟩:=aK h;have f80:=aY (k:=.i64) ci;rcases Bool.eq_false_or_eq_true ch with p | p
   ·replace h:=h.1 p;simp[E,a,f78,f80,p,-aw,-aL];exact W (free35) _ _ _ h (by refine⟨v37,by simp[E,a,f78,f80,p,-aw,-aL],M⟩)
   replace h:=h.2 p;simp[E,a,f78,f80,p,-aw,-aL];exact W (false) _ _ _ h (by refine⟨v37,by simp[E,a,f78,f80,p,-aw,-aL],M⟩)
  replace h:=am;obtain⟨cj,h⟩:=h;obtain⟨d0,cl,h⟩:=aK h;have f83:=fun H=>aP (H:=H) (fr:=false) (f:=av) (k:=.i64) aS (fun _=>rfl) cj cl
  obtain⟨co,cs,h⟩:=aK h;have f85:=aY (k:=.i64) cs;rcases Bool.eq_false_or_eq_true co with j | j
  ·replace h:=h.1 j;obtain⟨cv,h⟩:=h;obtain⟨d1,N,h⟩:=aK h;have f88:=fun H=>aP (H:=H) (fr:=false) (f:=(az.cells false)) (k:=.i64) b9 (fun _=>rfl) cv N
   obtain⟨c0,c1,h⟩:=aK h;have f90:=aY (k:=.i64) c1;rcases Bool.eq_false_or_eq_true c0 with t | t
   ·replace h:=h.1 t;simp[E,a,f83,f85,f88,f90,i,j,t,-ar,-aw];exact D (true) _ _ _ h (by refine⟨o,by simp[E,a,f83,f85,f88,f90,i,j,t,-ar,-aw],M⟩)
   replace h:=h.2 t;obtain⟨c2,h⟩:=h;obtain⟨d2,c3,h⟩:=aK h;have c4:=N.trans c3.symm;subst c4;have f94:=fun H=>aP (H:=H) (fr:=false) (f:=(az.cells false)) (k:=.i64) b9 (fun _=>rfl) c2 N
   obtain⟨c6,h⟩:=h;obtain⟨d3,c7,h⟩:=aK h;have f97:=fun H=>aP (H:=H) (fr:=false) (f:=av) (k:=.i64) aS (fun _=>rfl) c6 c7
   obtain⟨c8,da,h⟩:=aK h;have f99:=jM (k:=.i64) da;simp[E,a,f83,f85,f88,f90,f94,f97,f99,i,j,t,-ar,-aw];exact D (c8) _ _ _ h (by refine⟨o,by simp[E,a,f83,f85,f88,f90,f94,f97,f99,i,j,t,-ar,-aw],M⟩)
  replace h:=h.2 j;simp[E,a,f83,f85,i,j,-ar,-aw];exact D (false) _ _ _ h (by refine⟨o,by simp[E,a,f83,f85,i,j,-ar,-aw],M⟩)
 replace h:=h.2 i;refine J.exit rfl ?_;refine zE fun k' V=>?_
 simp[E,a,i];apply V;exact J.bj (v:=o) func152 results152 (by simp[E,a,i]) (hQ _ _ _ _ (Sep.sub (dK:=[]) M (by simp)) ⟨e,h,rfl⟩)
theorem Ez (b:I) (places:List Int) (hp:oz b places):bG prog 152 [.agg (bC false b),.list false (places.map av)] (.s [.c]) (fun r=>r = .list true ((Aw b places).map av)):=(zn b places _ (EO b places hp)).mono (by rintro _ ⟨_,rfl,rfl⟩;rfl)
theorem Sep.atF {H:ax} {n:Nat} {K:List bX} {ids:List Id} {l:List Sh} {id:Id} {g o len:Nat} {i:Int} {α:Type} {f:α->List au} {xs:List α} (h:Sep H n ((.s l,.arr id g o len,.list true (xs.map f))::K) ids) (hf:∀ t ∈ l,t = .c) (hb:0<=i/\i<xs.length):H id=some ⟨l.length,xs.map f⟩:=by
 obtain⟨id',e,h2,_⟩:=Sep.eA h hf hb;cases e;exact h2
theorem e128:a8 prog 128:=a8.of func128 (by kernel_rfl) rfl
set_option maxHeartbeats 2000000 in
theorem yV (b:I) (places:List Int) (edges:List Int) (many:Int) (Z:((List Int) × (List Int))->Prop) (ih:∀ br placesr edgesr manyr,gH br placesr edgesr manyr->iK br placesr edgesr manyr<iK b places edges many->bG prog 128 [.agg (bC false br),.list false (placesr.map av),.list false (edgesr.map av),int manyr] (.t [.s [.c],.s [.c]]) (fun r=>r = .tup [.list true (((jT br placesr edgesr manyr).1).map av),.list true (((jT br placesr edgesr manyr).2).map av)])) (h:nV b places edges many Z):bG prog 128 [.agg (bC false b),.list false (places.map av),.list false (edges.map av),int many] (.t [.s [.c],.s [.c]]) (fun r=>∃ y:(List Int) × (List Int),Z y/\r = .tup [.list true (y.1.map av),.list true (y.2.map av)]):=by
 unfold nV at h;have M:Sep bw 0 [] []:=Sep.nil (by simp);refine bG.of func128 rfl ntmps128 (by simp) fun Q hQ=>?_
 refine J.cut (fun O H n=>(O 0 = .agg (bC false b)/\O 1 = .list false (places.map av)/\O 2 = .list false (edges.map av)/\O 3=int many)/\Sep H n [] []) (by refine⟨by simp ,M⟩) ?_;rintro O H U ⟨E,M⟩;refine zE fun k' V=>?_
 simp[E];apply V;refine J.cut (fun O H n=>((O 1 = .list false (places.map av)/\O 2 = .list false (edges.map av)/\O 3=int many/\O 4=pA U 4)/\H (U,4)=some ⟨6,[bC false b]⟩)/\Sep H n [] [(U,4)]) (by refine⟨by simp[E],M.var⟩) ?_;clear E;rintro O H n3 ⟨⟨E,a⟩,M⟩;refine zS fun k' V=>?_
 obtain⟨cM,elen4,h⟩:=aK h;have f5:=fun H=>aI (H:=H) (fr:=false) (f:=(az.cells false)) b9 elen4
 obtain⟨c6,ec6,h⟩:=aK h;have f7:=eg (k:=.i64) ec6;simp[E,a,f5,f7,-aw,-aL];apply V;refine J.ite (b:=c6) (by simp[E,a]) (fun dc6=>?_) (fun dc6=>?_)
 ·replace h:=h.1 dc6;refine zE fun k' V=>?_
  obtain⟨hb8,h⟩:=h;obtain⟨r9,er9,h⟩:=aK h;simp[E,a,dc6];refine zW (wm b places edges hb8) e131 (.cons (cN false b) (.cons (cU false places) (.cons (cU false edges) .nil))) M (by simp[E,a,dc6]) ?_;rintro v10 md mk _ M rfl mo hg;rw[<- er9] at M;have a:=(hg _ (by simp)).trans a;replace M:=Sep.fF M;obtain⟨L18,hv,hi,M⟩:=M;subst hv;obtain⟨hj,mp,hv⟩:=bh (by simpa using hi);subst hv;simp only[gp,List.cons_append,List.nil_append] at M;replace M:=Sep.oo M;replace M:=Sep.oo M;try simp only[List.append_eq,List.cons_append,List.nil_append,List.append_assoc] at M
  simp[E,a,dc6];apply V;refine J.cut (fun O H n=>∃ (v22:au),O 10=v22/\Sep H n [oI v22 r9.1] []) (by refine⟨hj,by simp[E,a,dc6],(Sep.sub M.f1.dr (by simp +contextual))⟩) ?_;clear E a;rintro O H n23 ⟨v22,E,M⟩;refine zE fun k' V=>?_
  simp[E];apply V;refine J.cut (fun O H n=>∃ (da dc:au),(O 8=dc/\O 9=da)/\Sep H n [oI da ([]:List Int),oI dc r9.1] []) (by refine⟨.arr (n23,40) 0 0 0,v22,by simp[E],(Sep.addEmpty (l:=[.c]) M)⟩) ?_;clear E;rintro O H n27 ⟨da,dc,E,M⟩;exact J.rT (v:=dc) (w:=da) func128 results128 (by simp[E]) (by simp[E]) (hQ _ _ _ _ (Sep.sub (dK:=[]) (Sep.te (bb.own (bb.own bb.nil)) M.f1) (by simp)) ⟨(r9.1,([]:List Int)),h,rfl⟩)
 replace h:=h.2 dc6;apply J.skip;refine zE fun k' V=>?_
 obtain⟨hk,h⟩:=h;obtain⟨r30,hn,h⟩:=aK h;simp[E,a,dc6];refine zW (Ez b places hk) e152 (.cons (cN false b) (.cons (cU false places) .nil)) M (by simp[E,a,dc6]) ?_;rintro v31 mq n33 _ M rfl ms ho;rw[<- hn] at M;have a:=(ho _ (by simp)).trans a;simp[E,a,dc6];apply V;refine J.cut (fun O H n=>∃ (dd:au),((O 1 = .list false (places.map av)/\O 2 = .list false (edges.map av)/\O 3=int many/\O 4=pA U 4/\O 12=dd)/\H (U,4)=some ⟨6,[bC false b]⟩)/\Sep H n [oI dd r30] [(U,4)]) (by refine⟨v31,by simp[E,a,dc6],M⟩) ?_;clear E a;rintro O H n39 ⟨dd,⟨E,a⟩,M⟩;refine J.cut (fun O H n=>∃ (v40:au),((O 1 = .list false (places.map av)/\O 2 = .list false (edges.map av)/\O 3=int many/\O 4=pA U 4/\O 12=v40)/\H (U,4)=some ⟨6,[bC false b]⟩)/\Sep H n [oI v40 r30] [(U,4)]) (by refine⟨dd,by simp[E,a],M⟩) ?_;clear E a;rintro O H mt ⟨v40,⟨E,a⟩,M⟩;obtain⟨af,h⟩:=h;obtain⟨F,hv,dl,mu,hp⟩:=Sep.eA M (by simp) af;subst hv;simp at hp;obtain⟨e5,g4,h⟩:=aK h;have f48:=fun H (hm:H F=some ⟨1,r30.map av⟩)=>cH (H:=H) (k:=.i64) (off:=0) (len:=r30.length) (g:=r30.length) aS hm (by simp) rfl af
 have f49:=cu (q:=0) af g4 rfl;obtain⟨hq,h⟩:=h;obtain⟨e6,hr,h⟩:=aK h;refine J.C3 (fun H n=>H (U,4)=some ⟨6,[bC false b]⟩/\Sep H n [oI (.arr F r30.length 0 r30.length) r30] [(U,4)]) [6,7,8,9,10,11] (.free 0 (.free 1 (.free 2 (.free 3 (.free 4 (.free 5 (.aV 6 (.aV 7 (.aV 8 (.aV 9 (.aV 10 (.aV 11 (.fin) (.stop)) (.stop)) (.aV 10 (.aV 9 (.aV 11 (.fin) (.stop)) (.stop)) (.stop))) (.aV 9 (.aV 8 (.aV 10 (.aV 11 (.fin) (.stop)) (.stop)) (.stop)) (.stop))) (.stop)) (.stop)))))))) (fun O H n=>∃ (ds d0:au),((O 1 = .list false (places.map av)/\O 2 = .list false (edges.map av)/\O 3=int many/\O 4=pA U 4/\O 12=d0/\O 13=ds)/\H (U,4)=some ⟨6,[bC false b]⟩)/\Sep H n [oI ds e6.1,oI d0 r30] [(U,4)]) bq (by decide) (by kernel_rfl) ?_ ?_
 ·refine RunT.free (.agg (bC false b)) rfl rfl ⟨a,M⟩ (fun H n hS=>by obtain⟨a,M⟩:=hS;exact (by exact aH ay (by rw[aF];simp[E,a,f48,f49,-ar]))) ?_;refine RunT.free (.arr F r30.length 0 r30.length) rfl rfl ⟨a,M⟩ (fun H n hS=>by obtain⟨a,M⟩:=hS;exact (by exact aH ay (by rw[aF];simp[E,a,f48,f49,-ar]))) ?_;refine RunT.free (.ptr F r30.length 0 0) rfl rfl ⟨a,M⟩ (fun H n hS=>by obtain⟨a,M⟩:=hS;exact (by have dl:=Sep.atF M (by simp) af;have f48:=fun H (hm:H F=some ⟨1,r30.map av⟩)=>cH (H:=H) (k:=.i64) (off:=0) (len:=r30.length) (g:=r30.length) aS hm (by simp) rfl af;have f49:=cu (q:=0) af g4 rfl;exact aH ay (by rw[aF];simp[E,a,f48,f49,dl,-ar]))) ?_;refine RunT.free (int e5) rfl rfl ⟨a,M⟩ (fun H n hS=>by obtain⟨a,M⟩:=hS;exact (by have dl:=Sep.atF M (by simp) af;exact aH ay (by rw[aF];simp[E,a,f48,f49,dl,-ar]))) ?_;refine RunT.free (.list false (places.map av)) rfl rfl ⟨a,M⟩ (fun H n hS=>by obtain⟨a,M⟩:=hS;exact (by exact aH ay (by rw[aF];simp[E,a,f48,f49,-ar]))) ?_;refine RunT.free (.list false (edges.map av)) rfl rfl ⟨a,M⟩ (fun H n hS=>by obtain⟨a,M⟩:=hS;exact (by exact aH ay (by rw[aF];simp[E,a,f48,f49,-ar]))) ?_;refine⟨?_,trivial⟩;refine RunT.lK (as1:=[.agg (bC false b),int e5,.list false (places.map av),.list false (edges.map av)]) rfl rfl (kM b e5 places edges hq) F9 (.cons (cN false b) (.cons (.v _ _ _) (.cons (cU false places) (.cons (cU false edges) .nil)))) M (by simp[E,a,f48,f49,-ar]) (by simp[E,a,f48,f49,-ar]) ?_;rintro mv hs ht _ M rfl mx hu;rw[<- hr] at M;replace M:=Sep.fF M;obtain⟨L65,hv,hw,M⟩:=M;subst hv;obtain⟨B,R,hv⟩:=bh (by simpa using hw);subst hv;simp only[gp,List.cons_append,List.nil_append] at M;replace M:=Sep.oo M;replace M:=Sep.oo M;try simp only[List.append_eq,List.cons_append,List.nil_append,List.append_assoc] at M
  replace M:Sep hs ht [oI (.arr F r30.length 0 r30.length) r30,oI B e6.1,oI R e6.2] [(U,4)]:=M;have a:=(hu _ (by simp)).trans a;refine⟨(fun hl=>absurd (hl.symm.trans (show bn _ _ _=true by kernel_rfl)) (by decide)),?_⟩;refine⟨?_,trivial⟩;refine RunT.same (v:=(.tup [B,R])) ay rfl rfl (by simp[E,a,f48,f49,-ar]) (fun hl=>absurd (hl.symm.trans (show bn _ _ _=true by kernel_rfl)) (by decide)) ?_;refine⟨?_,?_,trivial⟩
  ·have f80:=Sep.oc M.f1;refine RunT.same (v:=B) ay rfl rfl (by simp[E,a,f48,f49,f80,-aE,-ar,-aM,bT,bu]) (fun hl=>absurd (hl.symm.trans (show bn _ _ _=true by kernel_rfl)) (by decide)) ?_;refine⟨?_,?_,trivial⟩
   ·have f87:=Sep.oc M.f2;refine RunT.same (v:=R) ay rfl rfl (by simp[E,a,f48,f49,f80,f87,-aE,-ar,-aM,bT,bu]) (fun hl=>absurd (hl.symm.trans (show bn _ _ _=true by kernel_rfl)) (by decide)) ?_;refine⟨?_,trivial⟩;have f94:=Sep.oc M.f1;refine RunT.same (v:=B) ay rfl rfl (by simp[E,a,f48,f49,f80,f87,f94,-aE,-ar,-aM,bT,bu]) (fun hl=>absurd (hl.symm.trans (show bn _ _ _=true by kernel_rfl)) (by decide)) ?_;refine⟨?_,trivial⟩;have f101:=Sep.oc M.f2;refine RunT.same (v:=R) ay rfl rfl (by simp[E,a,f48,f49,f80,f87,f94,f101,-aE,-ar,-aM,bT,bu]) (fun hl=>absurd (hl.symm.trans (show bn _ _ _=true by kernel_rfl)) (by decide)) ?_;refine RunT.fin (by refine⟨B,.arr F r30.length 0 r30.length,by simp[E,a,f48,f49,f80,f87,f94,f101,-aE,-ar,-aM,bT,bu],M.f2.dr.f1⟩)
   have f108:=Sep.oc M.f1;refine RunT.same (v:=B) ay rfl rfl (by simp[E,a,f48,f49,f80,f108,-aE,-ar,-aM,bT,bu]) (fun hl=>absurd (hl.symm.trans (show bn _ _ _=true by kernel_rfl)) (by decide)) ?_;refine⟨?_,trivial⟩;have f115:=Sep.oc M.f2;refine RunT.same (v:=R) ay rfl rfl (by simp[E,a,f48,f49,f80,f108,f115,-aE,-ar,-aM,bT,bu]) (fun hl=>absurd (hl.symm.trans (show bn _ _ _=true by kernel_rfl)) (by decide)) ?_;refine⟨?_,trivial⟩;have f122:=Sep.oc M.f2;refine RunT.same (v:=R) ay rfl rfl (by simp[E,a,f48,f49,f80,f108,f115,f122,-aE,-ar,-aM,bT,bu]) (fun hl=>absurd (hl.symm.trans (show bn _ _ _=true by kernel_rfl)) (by decide)) ?_;refine RunT.fin (by refine⟨B,.arr F r30.length 0 r30.length,by simp[E,a,f48,f49,f80,f108,f115,f122,-aE,-ar,-aM,bT,bu],M.f2.dr.f1⟩)
  have f129:=Sep.oc M.f2;refine RunT.same (v:=R) ay rfl rfl (by simp[E,a,f48,f49,f129,-aE,-ar,-aM,bT,bu]) (fun hl=>absurd (hl.symm.trans (show bn _ _ _=true by kernel_rfl)) (by decide)) ?_;refine⟨?_,trivial⟩;have f136:=Sep.oc M.f1;refine RunT.same (v:=B) ay rfl rfl (by simp[E,a,f48,f49,f129,f136,-aE,-ar,-aM,bT,bu]) (fun hl=>absurd (hl.symm.trans (show bn _ _ _=true by kernel_rfl)) (by decide)) ?_;refine⟨?_,trivial⟩;have f143:=Sep.oc M.f1;refine RunT.same (v:=B) ay rfl rfl (by simp[E,a,f48,f49,f129,f136,f143,-aE,-ar,-aM,bT,bu]) (fun hl=>absurd (hl.symm.trans (show bn _ _ _=true by kernel_rfl)) (by decide)) ?_;refine⟨?_,trivial⟩;have f150:=Sep.oc M.f2;refine RunT.same (v:=R) ay rfl rfl (by simp[E,a,f48,f49,f129,f136,f143,f150,-aE,-ar,-aM,bT,bu]) (fun hl=>absurd (hl.symm.trans (show bn _ _ _=true by kernel_rfl)) (by decide)) ?_;refine RunT.fin (by refine⟨B,.arr F r30.length 0 r30.length,by simp[E,a,f48,f49,f129,f136,f143,f150,-aE,-ar,-aM,bT,bu],M.f2.dr.f1⟩)
 clear E a;rintro O H mB ⟨ds,d0,⟨E,a⟩,M⟩;refine zS fun k' V=>?_
 simp[E,a];apply V;apply J.block;refine J.aO h (fun (sJ:Int × (List Int)) O H n=>match sJ with | (i160,d)=>∃ (v162 b0:au),((O 1 = .list false (places.map av)/\O 2 = .list false (edges.map av)/\O 3=int many/\O 4=pA U 4/\O 12=b0/\O 13=v162/\O 15=int i160)/\H (U,4)=some ⟨6,[bC false b]⟩)/\Sep H n [oI v162 d,oI b0 r30] [(U,4)]) (by refine⟨ds,d0,by simp[E,a],M⟩) ?_;clear E a;rintro⟨i160,d⟩ O H n164 K h ⟨v162,b0,⟨E,a⟩,M⟩ g5;refine zS fun k' V=>?_
 obtain⟨hx,hy,h⟩:=aK h;have f168:=pU (Sep.len (m:=hx) M.f1 aS (by rw[hy,List.length_map]));obtain⟨hz,hA,h⟩:=aK h;have f170:=aY (k:=.i64) hA;simp[E,a,f168,f170,-aw,-aL];apply V;refine J.ite (b:=hz) (by simp[E,a]) (fun a1=>?_) (fun a1=>?_)
 ·replace h:=h.1 a1;apply zK;apply J.block;refine J.cut (fun O H n=>∃ (v171 e7:au),((O 1 = .list false (places.map av)/\O 2 = .list false (edges.map av)/\O 3=int many/\O 4=pA U 4/\O 12=e7/\O 13=v171/\O 15=int i160)/\H (U,4)=some ⟨6,[bC false b]⟩)/\Sep H n [oI v171 d,oI e7 r30] [(U,4)]) (by refine⟨v162,b0,by simp[E,a,a1],M⟩) ?_;clear E a;rintro O H n173 ⟨v171,e7,⟨E,a⟩,M⟩;obtain⟨am,h⟩:=h;obtain⟨G,hv,d1,mC,hB⟩:=Sep.eA M.f1 (by simp) am;subst hv;simp at hB;obtain⟨e8,g6,h⟩:=aK h;have f180:=fun H (hm:H G=some ⟨1,r30.map av⟩)=>cH (H:=H) (k:=.i64) (off:=0) (len:=r30.length) (g:=r30.length) aS hm (by simp) rfl am
  have f181:=cu (q:=i160.toNat) am g6 rfl;obtain⟨hD,h⟩:=h;obtain⟨b1,hE,h⟩:=aK h;refine J.C3 (fun H n=>H (U,4)=some ⟨6,[bC false b]⟩/\Sep H n [oI v171 d,oI (.arr G r30.length 0 r30.length) r30] [(U,4)]) [7,8,9,10,11,12] (.free 0 (.free 1 (.free 2 (.free 3 (.free 4 (.free 5 (.free 6 (.aV 7 (.aV 8 (.aV 9 (.aV 10 (.aV 11 (.aV 12 (.fin) (.stop)) (.stop)) (.aV 11 (.aV 10 (.aV 12 (.fin) (.stop)) (.stop)) (.stop))) (.aV 10 (.aV 9 (.aV 11 (.aV 12 (.fin) (.stop)) (.stop)) (.stop)) (.stop))) (.stop)) (.stop))))))))) (fun O H n=>∃ (d2 d3 b2:au),((O 1 = .list false (places.map av)/\O 2 = .list false (edges.map av)/\O 3=int many/\O 4=pA U 4/\O 12=b2/\O 13=d3/\O 15=int i160/\O 16=d2)/\H (U,4)=some ⟨6,[bC false b]⟩)/\Sep H n [oI d2 b1.1,oI d3 d,oI b2 r30] [(U,4)]) bq (by decide) (by kernel_rfl) ?_ ?_
  ·refine RunT.free (.agg (bC false b)) rfl rfl ⟨a,M⟩ (fun H n hS=>by obtain⟨a,M⟩:=hS;exact (by exact aH ay (by rw[aF];simp[E,a,f180,f181,-ar]))) ?_;refine RunT.free (.arr G r30.length 0 r30.length) rfl rfl ⟨a,M⟩ (fun H n hS=>by obtain⟨a,M⟩:=hS;exact (by exact aH ay (by rw[aF];simp[E,a,f180,f181,-ar]))) ?_;refine RunT.free (int i160) rfl rfl ⟨a,M⟩ (fun H n hS=>by obtain⟨a,M⟩:=hS;exact (by exact aH ay (by rw[aF];simp[E,a,f180,f181,-ar]))) ?_;refine RunT.free (.ptr G r30.length i160.toNat 0) rfl rfl ⟨a,M⟩ (fun H n hS=>by obtain⟨a,M⟩:=hS;exact (by have d1:=Sep.atF M.f1 (by simp) am;have f180:=fun H (hm:H G=some ⟨1,r30.map av⟩)=>cH (H:=H) (k:=.i64) (off:=0) (len:=r30.length) (g:=r30.length) aS hm (by simp) rfl am;have f181:=cu (q:=i160.toNat) am g6 rfl;exact aH ay (by rw[aF];simp[E,a,f180,f181,d1,-ar]))) ?_;refine RunT.free (int e8) rfl rfl ⟨a,M⟩ (fun H n hS=>by obtain⟨a,M⟩:=hS;exact (by have d1:=Sep.atF M.f1 (by simp) am;exact aH ay (by rw[aF];simp[E,a,f180,f181,d1,-ar]))) ?_;refine RunT.free (.list false (places.map av)) rfl rfl ⟨a,M⟩ (fun H n hS=>by obtain⟨a,M⟩:=hS;exact (by exact aH ay (by rw[aF];simp[E,a,f180,f181,-ar]))) ?_;refine RunT.free (.list false (edges.map av)) rfl rfl ⟨a,M⟩ (fun H n hS=>by obtain⟨a,M⟩:=hS;exact (by exact aH ay (by rw[aF];simp[E,a,f180,f181,-ar]))) ?_;refine⟨?_,trivial⟩;refine RunT.lK (as1:=[.agg (bC false b),int e8,.list false (places.map av),.list false (edges.map av)]) rfl rfl (kM b e8 places edges hD) F9 (.cons (cN false b) (.cons (.v _ _ _) (.cons (cU false places) (.cons (cU false edges) .nil)))) M (by simp[E,a,f180,f181,-ar]) (by simp[E,a,f180,f181,-ar]) ?_;rintro v194 hF n191 _ M rfl mL hG;rw[<- hE] at M;replace M:=Sep.fF M;obtain⟨L198,hv,hH,M⟩:=M;subst hv;obtain⟨v196,T,hv⟩:=bh (by simpa using hH);subst hv;simp only[gp,List.cons_append,List.nil_append] at M;replace M:=Sep.oo M;replace M:=Sep.oo M;try simp only[List.append_eq,List.cons_append,List.nil_append,List.append_assoc] at M
   replace M:Sep hF n191 [oI v171 d,oI (.arr G r30.length 0 r30.length) r30,oI v196 b1.1,oI T b1.2] [(U,4)]:=M;have a:=(hG _ (by simp)).trans a;refine⟨(fun hl=>absurd (hl.symm.trans (show bn _ _ _=true by kernel_rfl)) (by decide)),?_⟩;refine⟨?_,trivial⟩;refine RunT.same (v:=(.tup [v196,T])) ay rfl rfl (by simp[E,a,f180,f181,-ar]) (fun hl=>absurd (hl.symm.trans (show bn _ _ _=true by kernel_rfl)) (by decide)) ?_;refine⟨?_,?_,trivial⟩
   ·have f213:=Sep.oc M.f2;refine RunT.same (v:=v196) ay rfl rfl (by simp[E,a,f180,f181,f213,-aE,-ar,-aM,bT,bu]) (fun hl=>absurd (hl.symm.trans (show bn _ _ _=true by kernel_rfl)) (by decide)) ?_;refine⟨?_,?_,trivial⟩
    ·have f220:=Sep.oc M.f3;refine RunT.same (v:=T) ay rfl rfl (by simp[E,a,f180,f181,f213,f220,-aE,-ar,-aM,bT,bu]) (fun hl=>absurd (hl.symm.trans (show bn _ _ _=true by kernel_rfl)) (by decide)) ?_;refine⟨?_,trivial⟩;have f227:=Sep.oc M.f2;refine RunT.same (v:=v196) ay rfl rfl (by simp[E,a,f180,f181,f213,f220,f227,-aE,-ar,-aM,bT,bu]) (fun hl=>absurd (hl.symm.trans (show bn _ _ _=true by kernel_rfl)) (by decide)) ?_;refine⟨?_,trivial⟩;have f234:=Sep.oc M.f3;refine RunT.same (v:=T) ay rfl rfl (by simp[E,a,f180,f181,f213,f220,f227,f234,-aE,-ar,-aM,bT,bu]) (fun hl=>absurd (hl.symm.trans (show bn _ _ _=true by kernel_rfl)) (by decide)) ?_;refine RunT.fin (by refine⟨v196,v171,.arr G r30.length 0 r30.length,by simp[E,a,f180,f181,f213,f220,f227,f234,-aE,-ar,-aM,bT,bu],M.f3.dr.f2⟩)
    have f241:=Sep.oc M.f2;refine RunT.same (v:=v196) ay rfl rfl (by simp[E,a,f180,f181,f213,f241,-aE,-ar,-aM,bT,bu]) (fun hl=>absurd (hl.symm.trans (show bn _ _ _=true by kernel_rfl)) (by decide)) ?_;refine⟨?_,trivial⟩;have f248:=Sep.oc M.f3;refine RunT.same (v:=T) ay rfl rfl (by simp[E,a,f180,f181,f213,f241,f248,-aE,-ar,-aM,bT,bu]) (fun hl=>absurd (hl.symm.trans (show bn _ _ _=true by kernel_rfl)) (by decide)) ?_;refine⟨?_,trivial⟩;have f255:=Sep.oc M.f3;refine RunT.same (v:=T) ay rfl rfl (by simp[E,a,f180,f181,f213,f241,f248,f255,-aE,-ar,-aM,bT,bu]) (fun hl=>absurd (hl.symm.trans (show bn _ _ _=true by kernel_rfl)) (by decide)) ?_;refine RunT.fin (by refine⟨v196,v171,.arr G r30.length 0 r30.length,by simp[E,a,f180,f181,f213,f241,f248,f255,-aE,-ar,-aM,bT,bu],M.f3.dr.f2⟩)
   have f262:=Sep.oc M.f3;refine RunT.same (v:=T) ay rfl rfl (by simp[E,a,f180,f181,f262,-aE,-ar,-aM,bT,bu]) (fun hl=>absurd (hl.symm.trans (show bn _ _ _=true by kernel_rfl)) (by decide)) ?_;refine⟨?_,trivial⟩;have f269:=Sep.oc M.f2;refine RunT.same (v:=v196) ay rfl rfl (by simp[E,a,f180,f181,f262,f269,-aE,-ar,-aM,bT,bu]) (fun hl=>absurd (hl.symm.trans (show bn _ _ _=true by kernel_rfl)) (by decide)) ?_;refine⟨?_,trivial⟩;have f276:=Sep.oc M.f2;refine RunT.same (v:=v196) ay rfl rfl (by simp[E,a,f180,f181,f262,f269,f276,-aE,-ar,-aM,bT,bu]) (fun hl=>absurd (hl.symm.trans (show bn _ _ _=true by kernel_rfl)) (by decide)) ?_;refine⟨?_,trivial⟩;have f283:=Sep.oc M.f3;refine RunT.same (v:=T) ay rfl rfl (by simp[E,a,f180,f181,f262,f269,f276,f283,-aE,-ar,-aM,bT,bu]) (fun hl=>absurd (hl.symm.trans (show bn _ _ _=true by kernel_rfl)) (by decide)) ?_;refine RunT.fin (by refine⟨v196,v171,.arr G r30.length 0 r30.length,by simp[E,a,f180,f181,f262,f269,f276,f283,-aE,-ar,-aM,bT,bu],M.f3.dr.f2⟩)
  clear E a;rintro O H n189 ⟨d2,d3,b2,⟨E,a⟩,M⟩;refine zE fun k' V=>?_
  obtain⟨hI,h⟩:=h;obtain⟨hK,hL,h⟩:=aK h;simp[E,a];refine zA (xz b1.1 d hI) e153 (.cons (Sep.dt M (bU (by simp))) (.cons (Sep.dt M.f1 (bU (by simp))) .nil)) (by simp[E,a]) ?_;rintro _ rfl;rw[<- hL];simp[E,a];apply V;refine J.ite (b:=hK) (by simp[E,a]) (fun W=>?_) (fun W=>?_)
  ·replace h:=h.1 W;refine zF fun k' V=>?_
   simp[E,a,W];apply V;refine zI fun k' V=>?_
   obtain⟨hM,h⟩:=h;obtain⟨hN,hO,h⟩:=aK h;have f288:=aU hM hO;simp[E,a,f288,W,-aw];apply V;refine g5 (hN,b1.1) _ _ _ h (by refine⟨d2,b2,by simp[E,a,W],M.f1.dr⟩)
  replace h:=h.2 W;apply J.skip;refine zI fun k' V=>?_
  obtain⟨hP,h⟩:=h;obtain⟨hR,hT,h⟩:=aK h;have f291:=aU hP hT;simp[E,a,f291,W,-aw];apply V;refine g5 (hR,d) _ _ _ h (by refine⟨d3,b2,by simp[E,a,W],M.dr⟩)
 replace h:=h.2 a1;refine J.exit rfl ?_;refine zE fun k' V=>?_
 simp[E,a,a1];apply V;refine J.cut (fun O H n=>∃ (d4 d5 d6 d7:au),((O 1 = .list false (places.map av)/\O 2 = .list false (edges.map av)/\O 3=int many/\O 4=pA U 4/\O 12=d7/\O 13=d6/\O 18=d5/\O 19=d4)/\H (U,4)=some ⟨6,[bC false b]⟩)/\Sep H n [oI d4 ([]:List Int),oI d5 ([]:List Int),oI d6 d,oI d7 r30] [(U,4)]) (by refine⟨.arr (n164+1,76) 0 0 0,.arr (n164,75) 0 0 0,v162,b0,by simp[E,a,a1],(Sep.addEmpty (l:=[.c]) (Sep.addEmpty (l:=[.c]) M))⟩) ?_;clear E a;rintro O H n298 ⟨d4,d5,d6,d7,⟨E,a⟩,M⟩;refine zE fun k' V=>?_
 simp[E,a];apply V;refine zS fun k' V=>?_
 simp[E,a];apply V;apply J.block;refine J.aO h (fun (sJ:Bool × Int × (List Int) × (List Int)) O H n=>match sJ with | (found315,j,e,i)=>∃ (a2 b3 d8 b7:au),((O 1 = .list false (places.map av)/\O 2 = .list false (edges.map av)/\O 3=int many/\O 4=pA U 4/\O 12=b7/\O 13=d8/\O 18=b3/\O 19=a2/\O 20=bool found315/\O 21=int j)/\H (U,4)=some ⟨6,[bC false b]⟩)/\Sep H n [oI a2 e,oI b3 i,oI d8 d,oI b7 r30] [(U,4)]) (by refine⟨d4,d5,d6,d7,by simp[E,a],M⟩) ?_;clear E a;rintro⟨found315,j,e,i⟩ O H n323 K h ⟨a2,b3,d8,b7,⟨E,a⟩,M⟩ fd;refine zS fun k' V=>?_
 obtain⟨hV,hW,h⟩:=aK h;have f327:=pU (Sep.len (m:=hV) M.f3 aS (by rw[hW,List.length_map]));obtain⟨hX,hY,h⟩:=aK h;have f329:=aY (k:=.i64) hY;simp[E,a,f327,f329,-aw,-aL];apply V;refine J.ite (b:=hX) (by simp[E,a]) (fun ao=>?_) (fun ao=>?_)
 ·replace h:=h.1 ao;apply zK;apply J.block;refine J.cut (fun O H n=>∃ (X Y ab fl:au),((O 1 = .list false (places.map av)/\O 2 = .list false (edges.map av)/\O 3=int many/\O 4=pA U 4/\O 12=fl/\O 13=ab/\O 18=Y/\O 19=X/\O 20=bool found315/\O 21=int j)/\H (U,4)=some ⟨6,[bC false b]⟩)/\Sep H n [oI X e,oI Y i,oI ab d,oI fl r30] [(U,4)]) (by refine⟨a2,b3,d8,b7,by simp[E,a,ao],M⟩) ?_;clear E a;rintro O H n334 ⟨X,Y,ab,fl,⟨E,a⟩,M⟩;obtain⟨aX,h⟩:=h;obtain⟨L,hv,d9,mM,h0⟩:=Sep.eA M.f3 (by simp) aX;subst hv;simp at h0;obtain⟨fn,g7,h⟩:=aK h;have f341:=fun H (hm:H L=some ⟨1,r30.map av⟩)=>cH (H:=H) (k:=.i64) (off:=0) (len:=r30.length) (g:=r30.length) aS hm (by simp) rfl aX
  have f342:=cu (q:=j.toNat) aX g7 rfl;obtain⟨h1,h⟩:=h;obtain⟨C,h2,h⟩:=aK h;refine J.C3 (fun H n=>H (U,4)=some ⟨6,[bC false b]⟩/\Sep H n [oI X e,oI Y i,oI ab d,oI (.arr L r30.length 0 r30.length) r30] [(U,4)]) [7,8,9,10,11,12] (.free 0 (.free 1 (.free 2 (.free 3 (.free 4 (.free 5 (.free 6 (.aV 7 (.aV 8 (.aV 9 (.aV 10 (.aV 11 (.aV 12 (.fin) (.stop)) (.stop)) (.aV 11 (.aV 10 (.aV 12 (.fin) (.stop)) (.stop)) (.stop))) (.aV 10 (.aV 9 (.aV 11 (.aV 12 (.fin) (.stop)) (.stop)) (.stop)) (.stop))) (.stop)) (.stop))))))))) (fun O H n=>∃ (fo eb b8 cc ce ch:au),((O 1 = .list false (places.map av)/\O 2 = .list false (edges.map av)/\O 3=int many/\O 4=pA U 4/\O 12=ch/\O 13=ce/\O 18=cc/\O 19=b8/\O 20=bool found315/\O 21=int j/\O 22=fo/\O 23=eb)/\H (U,4)=some ⟨6,[bC false b]⟩)/\Sep H n [oI fo C.1,oI eb C.2,oI b8 e,oI cc i,oI ce d,oI ch r30] [(U,4)]) bq (by decide) (by kernel_rfl) ?_ ?_
  ·refine RunT.free (.agg (bC false b)) rfl rfl ⟨a,M⟩ (fun H n hS=>by obtain⟨a,M⟩:=hS;exact (by exact aH ay (by rw[aF];simp[E,a,f341,f342,-ar]))) ?_;refine RunT.free (.arr L r30.length 0 r30.length) rfl rfl ⟨a,M⟩ (fun H n hS=>by obtain⟨a,M⟩:=hS;exact (by exact aH ay (by rw[aF];simp[E,a,f341,f342,-ar]))) ?_;refine RunT.free (int j) rfl rfl ⟨a,M⟩ (fun H n hS=>by obtain⟨a,M⟩:=hS;exact (by exact aH ay (by rw[aF];simp[E,a,f341,f342,-ar]))) ?_;refine RunT.free (.ptr L r30.length j.toNat 0) rfl rfl ⟨a,M⟩ (fun H n hS=>by obtain⟨a,M⟩:=hS;exact (by have d9:=Sep.atF M.f3 (by simp) aX;have f341:=fun H (hm:H L=some ⟨1,r30.map av⟩)=>cH (H:=H) (k:=.i64) (off:=0) (len:=r30.length) (g:=r30.length) aS hm (by simp) rfl aX;have f342:=cu (q:=j.toNat) aX g7 rfl;exact aH ay (by rw[aF];simp[E,a,f341,f342,d9,-ar]))) ?_;refine RunT.free (int fn) rfl rfl ⟨a,M⟩ (fun H n hS=>by obtain⟨a,M⟩:=hS;exact (by have d9:=Sep.atF M.f3 (by simp) aX;exact aH ay (by rw[aF];simp[E,a,f341,f342,d9,-ar]))) ?_;refine RunT.free (.list false (places.map av)) rfl rfl ⟨a,M⟩ (fun H n hS=>by obtain⟨a,M⟩:=hS;exact (by exact aH ay (by rw[aF];simp[E,a,f341,f342,-ar]))) ?_;refine RunT.free (.list false (edges.map av)) rfl rfl ⟨a,M⟩ (fun H n hS=>by obtain⟨a,M⟩:=hS;exact (by exact aH ay (by rw[aF];simp[E,a,f341,f342,-ar]))) ?_;refine⟨?_,trivial⟩;refine RunT.lK (as1:=[.agg (bC false b),int fn,.list false (places.map av),.list false (edges.map av)]) rfl rfl (kM b fn places edges h1) F9 (.cons (cN false b) (.cons (.v _ _ _) (.cons (cU false places) (.cons (cU false edges) .nil)))) M (by simp[E,a,f341,f342,-ar]) (by simp[E,a,f341,f342,-ar]) ?_;rintro mO h3 h4 _ M rfl mV h5;rw[<- h2] at M;replace M:=Sep.fF M;obtain⟨L362,hv,h6,M⟩:=M;subst hv;obtain⟨D,A,hv⟩:=bh (by simpa using h6);subst hv;simp only[gp,List.cons_append,List.nil_append] at M;replace M:=Sep.oo M;replace M:=Sep.oo M;try simp only[List.append_eq,List.cons_append,List.nil_append,List.append_assoc] at M
   replace M:Sep h3 h4 [oI X e,oI Y i,oI ab d,oI (.arr L r30.length 0 r30.length) r30,oI D C.1,oI A C.2] [(U,4)]:=M;have a:=(h5 _ (by simp)).trans a;refine⟨(fun hl=>absurd (hl.symm.trans (show bn _ _ _=true by kernel_rfl)) (by decide)),?_⟩;refine⟨?_,trivial⟩;refine RunT.same (v:=(.tup [D,A])) ay rfl rfl (by simp[E,a,f341,f342,-ar]) (fun hl=>absurd (hl.symm.trans (show bn _ _ _=true by kernel_rfl)) (by decide)) ?_;refine⟨?_,?_,trivial⟩
   ·have N:=Sep.oc M.f4;refine RunT.same (v:=D) ay rfl rfl (by simp[E,a,f341,f342,N,-aE,-ar,-aM,bT,bu]) (fun hl=>absurd (hl.symm.trans (show bn _ _ _=true by kernel_rfl)) (by decide)) ?_;refine⟨?_,?_,trivial⟩
    ·have ed:=Sep.oc M.f5;refine RunT.same (v:=A) ay rfl rfl (by simp[E,a,f341,f342,N,ed,-aE,-ar,-aM,bT,bu]) (fun hl=>absurd (hl.symm.trans (show bn _ _ _=true by kernel_rfl)) (by decide)) ?_;refine⟨?_,trivial⟩;have fs:=Sep.oc M.f4;refine RunT.same (v:=D) ay rfl rfl (by simp[E,a,f341,f342,N,ed,fs,-aE,-ar,-aM,bT,bu]) (fun hl=>absurd (hl.symm.trans (show bn _ _ _=true by kernel_rfl)) (by decide)) ?_;refine⟨?_,trivial⟩;have g8:=Sep.oc M.f5;refine RunT.same (v:=A) ay rfl rfl (by simp[E,a,f341,f342,N,ed,fs,g8,-aE,-ar,-aM,bT,bu]) (fun hl=>absurd (hl.symm.trans (show bn _ _ _=true by kernel_rfl)) (by decide)) ?_;refine RunT.fin (by refine⟨D,A,X,Y,ab,.arr L r30.length 0 r30.length,by simp[E,a,f341,f342,N,ed,fs,g8,-aE,-ar,-aM,bT,bu],M.f5.f5⟩)
    have ei:=Sep.oc M.f4;refine RunT.same (v:=D) ay rfl rfl (by simp[E,a,f341,f342,N,ei,-aE,-ar,-aM,bT,bu]) (fun hl=>absurd (hl.symm.trans (show bn _ _ _=true by kernel_rfl)) (by decide)) ?_;refine⟨?_,trivial⟩;have fx:=Sep.oc M.f5;refine RunT.same (v:=A) ay rfl rfl (by simp[E,a,f341,f342,N,ei,fx,-aE,-ar,-aM,bT,bu]) (fun hl=>absurd (hl.symm.trans (show bn _ _ _=true by kernel_rfl)) (by decide)) ?_;refine⟨?_,trivial⟩;have g9:=Sep.oc M.f5;refine RunT.same (v:=A) ay rfl rfl (by simp[E,a,f341,f342,N,ei,fx,g9,-aE,-ar,-aM,bT,bu]) (fun hl=>absurd (hl.symm.trans (show bn _ _ _=true by kernel_rfl)) (by decide)) ?_;refine RunT.fin (by refine⟨D,A,X,Y,ab,.arr L r30.length 0 r30.length,by simp[E,a,f341,f342,N,ei,fx,g9,-aE,-ar,-aM,bT,bu],M.f5.f5⟩)
   have ci:=Sep.oc M.f5;refine RunT.same (v:=A) ay rfl rfl (by simp[E,a,f341,f342,ci,-aE,-ar,-aM,bT,bu]) (fun hl=>absurd (hl.symm.trans (show bn _ _ _=true by kernel_rfl)) (by decide)) ?_;refine⟨?_,trivial⟩;have el:=Sep.oc M.f4;refine RunT.same (v:=D) ay rfl rfl (by simp[E,a,f341,f342,ci,el,-aE,-ar,-aM,bT,bu]) (fun hl=>absurd (hl.symm.trans (show bn _ _ _=true by kernel_rfl)) (by decide)) ?_;refine⟨?_,trivial⟩;have fy:=Sep.oc M.f4;refine RunT.same (v:=D) ay rfl rfl (by simp[E,a,f341,f342,ci,el,fy,-aE,-ar,-aM,bT,bu]) (fun hl=>absurd (hl.symm.trans (show bn _ _ _=true by kernel_rfl)) (by decide)) ?_;refine⟨?_,trivial⟩;have ha:=Sep.oc M.f5;refine RunT.same (v:=A) ay rfl rfl (by simp[E,a,f341,f342,ci,el,fy,ha,-aE,-ar,-aM,bT,bu]) (fun hl=>absurd (hl.symm.trans (show bn _ _ _=true by kernel_rfl)) (by decide)) ?_;refine RunT.fin (by refine⟨D,A,X,Y,ab,.arr L r30.length 0 r30.length,by simp[E,a,f341,f342,ci,el,fy,ha,-aE,-ar,-aM,bT,bu],M.f5.f5⟩)
  clear E a;rintro O H mW ⟨fo,eb,b8,cc,ce,ch,⟨E,a⟩,M⟩;refine zS fun k' V=>?_
  obtain⟨h7,h⟩:=h;obtain⟨fz,h8,h⟩:=aK h;simp[E,a];refine zA (nB C.1 d h7) e82 (.cons (Sep.dt M (bU (by simp))) (.cons (Sep.dt M.f4 (bU (by simp))) .nil)) (by simp[E,a]) ?_;rintro _ rfl;rw[<- h8];simp[E,a];apply V;refine J.ite (b:=(!fz)) (by simp[E,a]) (fun p=>?_) (fun p=>?_)
  ·have p:fz=false:=by simpa using p
   replace h:=h.2 p;refine J.exit rfl ?_;refine zF fun k' V=>?_
   obtain⟨h9,h⟩:=h;obtain⟨ii,io,h⟩:=aK h;have ip:=aU h9 io;simp[E,a,ip,p,-aw];apply V;refine fd (found315,ii,e,i) _ _ _ h (by refine⟨b8,cc,ce,ch,by simp[E,a,p],M.dr.dr⟩)
  have p:fz=true:=by simpa using p
  replace h:=h.1 p;apply J.skip;refine zE fun k' V=>?_
  obtain⟨it,h⟩:=h;obtain⟨ac,ix,h⟩:=aK h;simp[E,a,p];refine zW (uE places it) e134 (.cons (cU false places) .nil) M (by simp[E,a,p]) ?_;rintro i0 mX mY _ M rfl mZ i1;rw[<- ix] at M;have a:=(i1 _ (by simp)).trans a;simp[E,a,p];apply V;refine J.cut (fun O H n=>∃ (f0 a3 a4 a5 a9 f8:au),((O 1 = .list false (places.map av)/\O 2 = .list false (edges.map av)/\O 3=int many/\O 4=pA U 4/\O 12=f8/\O 13=a9/\O 18=a5/\O 19=a4/\O 20=bool found315/\O 21=int j/\O 23=a3/\O 24=f0)/\H (U,4)=some ⟨6,[bC false b]⟩)/\Sep H n [oI f0 ac,oI a3 C.2,oI a4 e,oI a5 i,oI a9 d,oI f8 r30] [(U,4)]) (by refine⟨i0,eb,b8,cc,ce,ch,by simp[E,a,p],M.f1.dr⟩) ?_;clear E a;rintro O H i2 ⟨f0,a3,a4,a5,a9,f8,⟨E,a⟩,M⟩;refine zE fun k' V=>?_
  obtain⟨f9,h⟩:=h;obtain⟨em,hv,i3,m1,cj⟩:=Sep.eA M.f5 (by simp) f9;subst hv;simp at cj;obtain⟨hb,i4,h⟩:=aK h;have gc:=fun H (hm:H em=some ⟨1,r30.map av⟩)=>cH (H:=H) (k:=.i64) (off:=0) (len:=r30.length) (g:=r30.length) aS hm (by simp) rfl f9
  have gd:=cu (q:=j.toNat) f9 i4 rfl;obtain⟨gg,h⟩:=h;obtain⟨gi,hv,i5,m2,cl⟩:=Sep.eA M (by simp) gg;subst hv;simp at cl;obtain⟨m3,i6,h⟩:=aK h;have gj:=fun H (hm:H gi=some ⟨1,ac.map av⟩)=>cH (H:=H) (k:=.i64) (off:=0) (len:=ac.length) (g:=ac.length) aS hm (by simp) rfl gg
  have gn:=cu (q:=hb.toNat) gg i6 rfl;obtain⟨go,i7,h⟩:=aK h;simp[E,a,i3,cj,i5,cl,gc,gd,gj,gn,-ar,-cq];refine cL (q:=hb.toNat) (news:=av many) [] [oI a3 C.2,oI a4 e,oI a5 i,oI a9 d,oI (.arr em r30.length 0 r30.length) r30] M (by simp) (by simp;omega) (by simp) (by simp[-aM,bu]) (bb.v _ bb.nil) ?_;rintro i8 M i9;replace M:Sep i8 i2 [oI (.arr gi ac.length 0 ac.length) go,oI a3 C.2,oI a4 e,oI a5 i,oI a9 d,oI (.arr em r30.length 0 r30.length) r30] [(U,4)]:=Sep.st i7 M;have a:=(i9 _ (by simp)).trans a;simp[E,a,cj,cl,gc,gd,gj,gn,-ar];apply V;refine J.cut (fun O H n=>∃ (gs gu en eo es ev:au),((O 1 = .list false (places.map av)/\O 2 = .list false (edges.map av)/\O 3=int many/\O 4=pA U 4/\O 12=ev/\O 13=es/\O 18=eo/\O 19=en/\O 20=bool found315/\O 21=int j/\O 23=gu/\O 24=gs)/\H (U,4)=some ⟨6,[bC false b]⟩)/\Sep H n [oI gs go,oI gu C.2,oI en e,oI eo i,oI es d,oI ev r30] [(U,4)]) (by refine⟨.arr gi ac.length 0 ac.length,a3,a4,a5,a9,.arr em r30.length 0 r30.length,by simp[E,a,cj,cl,gc,gd,gj,gn,-ar],M⟩) ?_;clear E a cj cl;rintro O H m4 ⟨gs,gu,en,eo,es,ev,⟨E,a⟩,M⟩;refine zE fun k' V=>?_
  obtain⟨jp,h⟩:=h;obtain⟨j1,j2,h⟩:=aK h;have ex:=aU jp j2;obtain⟨hc,h⟩:=h;obtain⟨u,j3,h⟩:=aK h;simp[E,a,ex,-aw];refine zW (ih b go C.2 j1 hc.1 hc.2) e128 (.cons (cN false b) (.cons (Sep.dt M (bU (by simp))) (.cons (Sep.dt M.f1 (bU (by simp))) (.cons (.v _ _ _) .nil)))) M (by simp[E,a,ex,-aw]) ?_;rintro m6 nd ni _ M rfl nj kd;rw[<- j3] at M;have a:=(kd _ (by simp)).trans a;replace M:=Sep.fF M;obtain⟨L509,hv,ki,M⟩:=M;subst hv;obtain⟨kj,kw,hv⟩:=bh (by simpa using ki);subst hv;simp only[gp,List.cons_append,List.nil_append] at M;replace M:=Sep.oo M;replace M:=Sep.oo M;try simp only[List.append_eq,List.cons_append,List.nil_append,List.append_assoc] at M
  simp[E,a,ex,-aw];apply V;refine J.cut (fun O H n=>∃ (co cv c0 c1 c2 c3:au),((O 1 = .list false (places.map av)/\O 2 = .list false (edges.map av)/\O 3=int many/\O 4=pA U 4/\O 12=c1/\O 13=c0/\O 18=cv/\O 19=co/\O 20=bool found315/\O 21=int j/\O 25=c2/\O 26=c3)/\H (U,4)=some ⟨6,[bC false b]⟩)/\Sep H n [oI co e,oI cv i,oI c0 d,oI c1 r30,oI c2 u.1,oI c3 u.2] [(U,4)]) (by refine⟨en,eo,es,ev,kj,kw,by simp[E,a,ex,-aw],M.dr.dr⟩) ?_;clear E a;rintro O H nl ⟨co,cv,c0,c1,c2,c3,⟨E,a⟩,M⟩;refine zE fun k' V=>?_
  obtain⟨kx,ky,k0⟩:=h;have hd:∀ (sJ:Bool) (O:Env) (H:ax) (n:Nat),kx sJ->(match sJ with | gv=>∃ (bd be a0 c4 bi c7:au),((O 1 = .list false (places.map av)/\O 2 = .list false (edges.map av)/\O 3=int many/\O 4=pA U 4/\O 12=c4/\O 13=a0/\O 18=be/\O 19=bd/\O 20=bool found315/\O 21=int j/\O 25=bi/\O 26=c7/\O 122=bool gv)/\H (U,4)=some ⟨6,[bC false b]⟩)/\Sep H n [oI bd e,oI be i,oI a0 d,oI c4 r30,oI bi u.1,oI c7 u.2] [(U,4)])->J prog 128 135 k' O H n Q:=by
   rintro gv O H ns h ⟨bd,be,a0,c4,bi,c7,⟨E,a⟩,M⟩;replace h:=k0 _ h;apply V;refine J.ite (b:=gv) (by simp[E,a]) (fun o=>?_) (fun o=>?_)
   ·replace h:=h.1 o;refine zE fun k' V=>?_
    simp[E,a,o];apply V;refine J.seqK ay (by decide) fun k' V=>?_
    refine bz.lF (v:=c4) ay (by decide) rfl (by simp[E,a,o]) ?_;refine bz.lF (v:=(int j)) ay (by decide) rfl (by simp[E,a,o]) ?_;obtain⟨gw,h⟩:=h;obtain⟨c8,hv,g0,nx,ad⟩:=Sep.eA M.f3 (by simp) gw;subst hv;simp at ad;obtain⟨g1,k1,h⟩:=aK h;have bs:=fun H (hm:H c8=some ⟨1,r30.map av⟩)=>cH (H:=H) (k:=.i64) (off:=0) (len:=r30.length) (g:=r30.length) aS hm (by simp) rfl gw
    have bv:=cu (q:=j.toNat) gw k1 rfl;refine bz.lF (v:=(.ptr c8 r30.length j.toNat 0)) ay (by decide) rfl (by simp[E,a,g0,ad,bs,bv,o,-ar]) ?_;refine bz.lF (v:=(int g1)) ay (by decide) rfl (by simp[E,a,g0,ad,bs,bv,o,-ar]) ?_;obtain⟨k2,k3,h⟩:=aK h;refine bz.makeS (l':=[.c]) (cs:=[int g1]) ay (([g1]:List Int).map av) M (by decide) (by decide) (by simp) aS (by simp) (by simp) (by simp[E,a,g0,ad,bs,bv,o,fa,List.replicate,dZ,-ar]) (by simp[chunks,List.range_succ]) (by simp) (by simp) ?_;rintro k4 k6 la M lb nR;replace M:Sep k6 la [oI (.arr k4 1 0 1) k2,oI bd e,oI be i,oI a0 d,oI (.arr c8 r30.length 0 r30.length) r30,oI bi u.1,oI c7 u.2] [(U,4)]:=by rw[k3];exact M
    have a:=(lb _ (by simp)).trans a;obtain⟨lc,h⟩:=h;obtain⟨g2,li,h⟩:=aK h;simp[E,a,ad,bs,bv,o,-ar,-bo];refine dg (u.2.map av) M (by simp) aS (by simp) (by simp) (Sep.src M.f6 (by simp)) (by simp[-aM,bu]) (by simpa using lc) ?_;rintro he lj lm M ln nX;replace M:Sep lj lm [oI he g2,oI bd e,oI be i,oI a0 d,oI (.arr c8 r30.length 0 r30.length) r30,oI bi u.1,oI c7 u.2] [(U,4)]:=by refine Sep.ap li ?_;exact M
    have a:=(ln _ (by simp)).trans a;simp[E,a,ad,bs,bv,o,-ar];apply V;refine J.cut (fun O H n=>∃ (ey e0 e1 e2:au),((O 1 = .list false (places.map av)/\O 2 = .list false (edges.map av)/\O 3=int many/\O 4=pA U 4/\O 12=e1/\O 13=e0/\O 18=e2/\O 19=ey/\O 21=int j)/\H (U,4)=some ⟨6,[bC false b]⟩)/\Sep H n [oI ey g2,oI e0 d,oI e1 r30,oI e2 u.1] [(U,4)]) (by refine⟨he,a0,.arr c8 r30.length 0 r30.length,bi,by simp[E,a,ad,bs,bv,o,-ar],M.f1.dr.f1.dr.f4.dr⟩) ?_;clear E a ad;rintro O H n0 ⟨ey,e0,e1,e2,⟨E,a⟩,M⟩;refine zF fun k' V=>?_
    simp[E,a];apply V;refine zI fun k' V=>?_
    obtain⟨lo,h⟩:=h;obtain⟨lr,ls,h⟩:=aK h;have lw:=aU lo ls;simp[E,a,lw,-aw];apply V;refine fd (true,lr,g2,u.1) _ _ _ h (by refine⟨ey,e2,e0,e1,by simp[E,a],M.f3.f1⟩)
   replace h:=h.2 o;apply J.skip;refine zI fun k' V=>?_
   obtain⟨lx,h⟩:=h;obtain⟨ly,lA,h⟩:=aK h;have lX:=aU lx lA;simp[E,a,lX,o,-aw];apply V;refine fd (found315,ly,e,i) _ _ _ h (by refine⟨bd,be,a0,c4,by simp[E,a,o],M.f4.dr.f4.dr⟩)
  replace h:=ky;rcases Bool.eq_false_or_eq_true found315 with dfound315 | dfound315
  ·replace h:=h.1 dfound315;obtain⟨l0,h⟩:=h;obtain⟨l1,l2,h⟩:=aK h;simp[E,a,dfound315];refine zA (xz u.1 i l0) e153 (.cons (Sep.dt M.f4 (bU (by simp))) (.cons (Sep.dt M.f1 (bU (by simp))) .nil)) (by simp[E,a,dfound315]) ?_;rintro _ rfl;rw[<- l2];simp[E,a,dfound315];exact hd (l1) _ _ _ h (by refine⟨co,cv,c0,c1,c2,c3,by simp[E,a,dfound315],M⟩)
  replace h:=h.2 dfound315;simp[E,a,dfound315];exact hd (true) _ _ _ h (by refine⟨co,cv,c0,c1,c2,c3,by simp[E,a,dfound315],M⟩)
 replace h:=h.2 ao;refine J.exit rfl ?_;refine zE fun k' V=>?_
 obtain⟨l3,h⟩:=h;obtain⟨g3,l4,h⟩:=aK h;simp[E,a,ao,-bo];refine dg (i.map av) M.f2 (by simp) aS (by simp) (by simp) (Sep.src M.f1 (by simp)) (by simp[-aM,bu]) (by simpa using l3) ?_;rintro hf l5 l7 M l9 n2;replace M:Sep l5 l7 [oI hf g3,oI a2 e,oI b3 i,oI b7 r30] [(U,4)]:=by refine Sep.ap l4 ?_;exact M
 have a:=(l9 _ (by simp)).trans a;simp[E,a,ao];apply V;refine J.cut (fun O H n=>∃ (e3 e4:au),(O 8=e3/\O 9=e4)/\Sep H n [oI e3 g3,oI e4 e] []) (by refine⟨hf,a2,by simp[E,a,ao],(Sep.sub M.f2.dr.f2.dr (by simp +contextual))⟩) ?_;clear E a;rintro O H n4 ⟨e3,e4,E,M⟩;exact J.rT (v:=e3) (w:=e4) func128 results128 (by simp[E]) (by simp[E]) (hQ _ _ _ _ (Sep.sub (dK:=[]) (Sep.te (bb.own (bb.own bb.nil)) M) (by simp)) ⟨(g3,e),h,rfl⟩)
theorem CR (mq:Nat):∀ (b:I) (places:List Int) (edges:List Int) (many:Int),iK b places edges many=mq->gH b places edges many->bG prog 128 [.agg (bC false b),.list false (places.map av),.list false (edges.map av),int many] (.t [.s [.c],.s [.c]]) (fun r=>r = .tup [.list true (((jT b places edges many).1).map av),.list true (((jT b places edges many).2).map av)]):=by
 induction mq using Nat.strongRecOn with
 | _ mq ih=>
  rintro b places edges many rfl hp;exact (yV b places edges many _ (fun br placesr edgesr manyr hp' hl=>ih _ hl br placesr edgesr manyr rfl hp') (D3 b places edges many hp)).mono (by rintro _ ⟨_,rfl,rfl⟩;rfl)
theorem DU (b:I) (places:List Int) (edges:List Int) (many:Int) (hp:gH b places edges many):bG prog 128 [.agg (bC false b),.list false (places.map av),.list false (edges.map av),int many] (.t [.s [.c],.s [.c]]) (fun r=>r = .tup [.list true (((jT b places edges many).1).map av),.list true (((jT b places edges many).2).map av)]):=CR _ b places edges many rfl hp
end Go.Ab.Vg
namespace Go.Ab.Vg
open Go.Proofs
set_option maxRecDepth 100000
attribute [local simp] Control.cells az.cells aQ.cells av gZ bg bC pA
theorem e117:a8 prog 117:=a8.of func117 (by kernel_rfl) rfl
theorem qN (b:I) (Z:Bool->Prop) (h:gx b Z):aC prog 117 [.agg (bC false b)] (fun r=>∃ y:Bool,Z y/\r=bool y):=by
 unfold gx at h;refine aC.of func117 rfl ntmps117 (by simp) fun Q hQ=>?_
 refine J.cut (fun O H n=>O 0 = .agg (bC false b)) (by simp) ?_;rintro O H U E;refine zE fun k' V=>?_
 simp[E];apply V;refine J.cut (fun O H n=>O 1=pA U 1/\H (U,1)=some ⟨6,[bC false b]⟩) (by refine⟨?_,?_⟩<;>simp[E]) ?_;clear E;rintro O H n3 ⟨E,c⟩;refine zE fun k' V=>?_
 obtain⟨J4,hJ5,hr6⟩:=h;have fin8:∀ (sJ:Bool) (O:Env) (H:ax) (n:Nat),J4 sJ->(match sJ with | b7=>O 2=bool b7)->J prog 117 13 k' O H n Q:=by
  rintro b7 O H n9 h E;replace h:=hr6 _ h;apply V;exact J.bj (v:=bool b7) func117 results117 (by simp[E]) (hQ _ _ _ _ (.of (.v _)) ⟨b7,h,rfl⟩)
 replace h:=hJ5;obtain⟨gk,d,h⟩:=aK h;have f11:=fun H=>aI (H:=H) (fr:=false) (f:=av) aS d
 obtain⟨e,g,h⟩:=aK h;have f13:=eg (k:=.i64) g;rcases Bool.eq_false_or_eq_true e with a | a
 ·replace h:=h.1 a;obtain⟨o,i,h⟩:=aK h;have f15:=fun H=>aI (H:=H) (fr:=false) (f:=aQ.cells) dM i
  obtain⟨j,l,h⟩:=aK h;have f17:=eg (k:=.i64) l;simp[E,c,f11,f13,f15,f17,a,-aw,-aL];exact fin8 (j) _ _ _ h (by simp[E,c,f11,f13,f15,f17,a,-aw,-aL])
 replace h:=h.2 a;simp[E,c,f11,f13,a,-aw,-aL];exact fin8 (false) _ _ _ h (by simp[E,c,f11,f13,a,-aw,-aL])
theorem ud (b:I) (hp:iz b):aC prog 117 [.agg (bC false b)] (fun r=>r=bool (eT b)):=(qN b _ (ve b hp)).mono (by rintro _ ⟨_,rfl,rfl⟩;rfl)
theorem e65:a8 prog 65:=a8.of func65 (by kernel_rfl) rfl
theorem xq (sig:List Control) (b:I) (Z:Bool->Prop) (h:kN sig b Z):aC prog 65 [.list false (sig.map Control.cells),.agg (bC false b)] (fun r=>∃ y:Bool,Z y/\r=bool y):=by
 unfold kN at h;refine aC.of func65 rfl ntmps65 (by simp) fun Q hQ=>?_
 refine J.cut (fun O H n=>(O 0 = .list false (sig.map Control.cells)/\O 1 = .agg (bC false b))) (by simp) ?_;rintro O H U E;refine zE fun k' V=>?_
 simp[E];apply V;refine J.cut (fun O H n=>(O 0 = .list false (sig.map Control.cells)/\O 3=pA U 3)/\H (U,3)=some ⟨6,[bC false b]⟩) (by refine⟨?_,?_⟩<;>simp[E]) ?_;clear E;rintro O H n3 ⟨E,c⟩;refine zE fun k' V=>?_
 obtain⟨J4,hJ5,hr6⟩:=h;have fin8:∀ (sJ:Bool) (O:Env) (H:ax) (n:Nat),J4 sJ->(match sJ with | b7=>O 4=bool b7)->J prog 65 12 k' O H n Q:=by
  rintro b7 O H n9 h E;replace h:=hr6 _ h;apply V;exact J.bj (v:=bool b7) func65 results65 (by simp[E]) (hQ _ _ _ _ (.of (.v _)) ⟨b7,h,rfl⟩)
 replace h:=hJ5;obtain⟨d,h⟩:=h;obtain⟨e,g,h⟩:=aK h;simp[E,c];refine zA (uD sig b d) e40 (.cons (pH false sig) (.cons (cN false b) .nil)) (by simp[E,c]) ?_;rintro _ rfl;rw[<- g];rcases Bool.eq_false_or_eq_true e with a | a
 ·replace h:=h.1 a;obtain⟨i,h⟩:=h;obtain⟨j,l,h⟩:=aK h;simp[E,c,a];refine zA (ud b i) e117 (.cons (cN false b) .nil) (by simp[E,c,a]) ?_;rintro _ rfl;rw[<- l];simp[E,c,a];exact fin8 (j) _ _ _ h (by simp[E,c,a])
 replace h:=h.2 a;simp[E,c,a];exact fin8 (false) _ _ _ h (by simp[E,c,a])
theorem CO (sig:List Control) (b:I) (hp:mf sig b):aC prog 65 [.list false (sig.map Control.cells),.agg (bC false b)] (fun r=>r=bool (dz sig b)):=(xq sig b _ (B7 sig b hp)).mono (by rintro _ ⟨_,rfl,rfl⟩;rfl)
theorem e60:a8 prog 60:=a8.of func60 (by kernel_rfl) rfl
theorem uF (sig:List Control) (b:I) (Z:Bool->Prop) (h:jz sig b Z):aC prog 60 [.list false (sig.map Control.cells),.agg (bC false b)] (fun r=>∃ y:Bool,Z y/\r=bool y):=by
 unfold jz at h;refine aC.of func60 rfl ntmps60 (by simp) fun Q hQ=>?_
 refine J.cut (fun O H n=>(O 0 = .list false (sig.map Control.cells)/\O 1 = .agg (bC false b))) (by simp) ?_;rintro O H U E;refine zE fun k' V=>?_
 simp[E];apply V;refine J.cut (fun O H n=>(O 0 = .list false (sig.map Control.cells)/\O 3=pA U 3)/\H (U,3)=some ⟨6,[bC false b]⟩) (by refine⟨?_,?_⟩<;>simp[E]) ?_;clear E;rintro O H n3 ⟨E,c⟩;refine zE fun k' V=>?_
 obtain⟨J4,hJ5,hr6⟩:=h;have fin8:∀ (sJ:Bool) (O:Env) (H:ax) (n:Nat),J4 sJ->(match sJ with | b7=>O 4=bool b7)->J prog 60 20 k' O H n Q:=by
  rintro b7 O H n9 h E;replace h:=hr6 _ h;apply V;exact J.bj (v:=bool b7) func60 results60 (by simp[E]) (hQ _ _ _ _ (.of (.v _)) ⟨b7,h,rfl⟩)
 replace h:=hJ5;obtain⟨e,h⟩:=h;obtain⟨g,i,h⟩:=aK h;simp[E,c];refine zA (Bw sig b e) e32 (.cons (pH false sig) (.cons (cN false b) .nil)) (by simp[E,c]) ?_;rintro _ rfl;rw[<- i];rcases Bool.eq_false_or_eq_true g with a | a
 ·replace h:=h.1 a;obtain⟨pk,j,h⟩:=aK h;have f13:=fun H=>aI (H:=H) (fr:=false) (f:=av) aS j
  obtain⟨l,o,h⟩:=aK h;have f15:=eg (k:=.i64) o;rcases Bool.eq_false_or_eq_true l with d | d
  ·replace h:=h.1 d;obtain⟨u,p,h⟩:=aK h;have f17:=fun H=>aI (H:=H) (fr:=false) (f:=aQ.cells) dM p
   obtain⟨q,t,h⟩:=aK h;have f19:=eg (k:=.i64) t;simp[E,c,f13,f15,f17,f19,a,d,-aw,-aL];exact fin8 (q) _ _ _ h (by simp[E,c,f13,f15,f17,f19,a,d,-aw,-aL])
  replace h:=h.2 d;simp[E,c,f13,f15,a,d,-aw,-aL];exact fin8 (false) _ _ _ h (by simp[E,c,f13,f15,a,d,-aw,-aL])
 replace h:=h.2 a;simp[E,c,a];exact fin8 (false) _ _ _ h (by simp[E,c,a])
theorem xO (sig:List Control) (b:I) (hp:jZ sig b):aC prog 60 [.list false (sig.map Control.cells),.agg (bC false b)] (fun r=>r=bool (tL sig b)):=(uF sig b _ (zu sig b hp)).mono (by rintro _ ⟨_,rfl,rfl⟩;rfl)
end Go.Ab.Vg
namespace Go.Ab.Vg
open Go.Proofs
set_option maxRecDepth 100000
theorem GU (l:List Int) (x:Int) (h:l.length<=1048576):aC prog 107 [.list false (l.map av),int x] (fun r=>r=bool (qW l x)):=py l x h
theorem BM (l:List Int) (x:Int) (h:l.length<=1048576):aC prog 135 [.list false (l.map av),int x] (fun r=>r=bool (qW l x)):=ER l x h
end Go.Ab.Vg
namespace Go.Ab.Vg
open Go.Proofs
set_option maxRecDepth 100000
end Go.Ab.Vg
namespace Go.Ab.Vg
open Go.Proofs
end Go.Ab.Vg
