/- What the rows of package stream's laws import. -/
import Derived.Test.YtodfahcmgmleeaaDoorStreamLaws
import Derived.Test.YtodfahcmgmleeaaDoorLaid
