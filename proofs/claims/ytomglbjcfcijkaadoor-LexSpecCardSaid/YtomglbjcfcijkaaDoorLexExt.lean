/- THE CONTRACTS of lex.Lex, lex.Text, lex.Same and lex.Name, in the form that what was printed calls them by: they are proved in the texts that this one gathers. -/
import Derived.Test.YtomglbjcfcijkaaDoorLexMain
import Derived.Test.YtomglbjcfcijkaaDoorLexText
import Derived.Test.YtomglbjcfcijkaaDoorLexSame
import Derived.Lib.LaidTab
import Derived.Lib.ItoaNum
import Derived.WalkSmall
